/- Go functions as Lean functions, each with the proof that its call comes to just its answer. Conditions: the arguments are of their kinds. -/
import Derived.Test.YtimkjhdopncimaaX0
import Derived.Test.YtimkjhdopncimaaX1
import Derived.Test.YtimkjhdopncimaaX5
import Derived.Test.YtimkjhdopncimaaX13
import Derived.Test.YtimkjhdopncimaaX32
import Derived.Test.YtimkjhdopncimaaX33
import Derived.Test.YtimkjhdopncimaaX34
import Derived.Test.YtimkjhdopncimaaXO
namespace Go.Proofs.Ytimkjhdopncimaa.X
open Go.RowKit Go.Proofs.YtimkjhdopncimaaW.PrintWords Go.Proofs.YtimkjhdopncimaaW.PrintLast Go.Proofs.YtimkjhdopncimaaW.PrintMore
attribute [local go_sem] max2_int min2_int max_two min_two max_three min_three max_four min_four   -- for this text's walks alone
set_option linter.unusedVariables false
set_option linter.unusedSimpArgs false

/-! ### laws_FnExactPruneCircuit: function 7 -/
mutual
def laws_FnExactPruneCircuit.j0 : Nat → Bool → Bool → Bool → Int → List (S82) → List Int → Int → List (S59) → List Int → Int → List (S59) → List Int → Int → List (S59) → List Int → Option (Bool)
 | 0, _, _, _, _, _, _, _, _, _, _, _, _, _, _, _ => none
 | k + 1, x5, x8, x40, x709000, x709001, x709002, x726000, x726001, x726002, x734000, x734001, x734002, x743000, x743001, x743002 => if x40 = true then (some false) else ((laws_toCircuit.f k x709000 x709001 x709002).bind fun bt744 => ((laws_eqCircuit.f k x734000 x734001 x734002 bt744.1 bt744.2.1 bt744.2.2).bind fun t751 => (if t751 = true then ((laws_markCircuit.f k x734000 x734001 x734002 1).bind fun bt752 => (if bt752.1 < 0 then (laws_FnExactPruneCircuit.j1 k x5 true x709000 x709001 x709002 x726000 x726001 x726002 x743000 x743001 x743002) else ((laws_eqCircuit.f k x743000 x743001 x743002 x726000 x726001 x726002).bind fun t755 => (if t755 = true then (laws_FnExactPruneCircuit.j1 k x5 (x8 != x5) x709000 x709001 x709002 x726000 x726001 x726002 x743000 x743001 x743002) else (laws_FnExactPruneCircuit.j1 k x5 true x709000 x709001 x709002 x726000 x726001 x726002 x743000 x743001 x743002))))) else (some false))))
def laws_FnExactPruneCircuit.j1 : Nat → Bool → Bool → Int → List (S82) → List Int → Int → List (S59) → List Int → Int → List (S59) → List Int → Option (Bool)
 | 0, _, _, _, _, _, _, _, _, _, _, _ => none
 | k + 1, x5, x61, x709000, x709001, x709002, x726000, x726001, x726002, x743000, x743001, x743002 => if x61 = true then (some false) else ((laws_markCircuit.f k x743000 x743001 x743002 1).bind fun bt756 => ((laws_heldCircuit.f k x743000 bt756.2.1 bt756.2.2 1).bind fun t759 => (if t759 < 0 then (some false) else (if t759 = bt756.1 then ((laws_toCircuit.f k x709000 x709001 x709002).bind fun bt760 => ((impl_PruneCircuit.f k bt760.1 bt760.2.1 bt760.2.2).bind fun bt767 => ((laws_eqCircuit.f k bt767.1 bt767.2.1 bt767.2.2.1 x726000 x726001 x726002).bind fun t776 => (if t776 = true then (laws_FnExactPruneCircuit.j2 k bt756.1 (bt767.2.2.2 != x5) x743000 bt756.2.1 bt756.2.2) else (laws_FnExactPruneCircuit.j2 k bt756.1 true x743000 bt756.2.1 bt756.2.2))))) else (some false)))))
def laws_FnExactPruneCircuit.j2 : Nat → Int → Bool → Int → List (S59) → List Int → Option (Bool)
 | 0, _, _, _, _, _ => none
 | k + 1, x10, x87, x743000, x743001, x743002 => if x87 = true then (some false) else ((laws_heldCircuit.f k x743000 x743001 x743002 1).bind fun t777 => (if t777 < 0 then (some false) else (if t777 = x10 then (some true) else (some false))))
end
def laws_FnExactPruneCircuit.f (k : Nat) (a0_0 : Int) (l0_1 : List (S82)) (l0_2 : List Int) : Option (Bool) := (laws_szCircuit.f a0_0 l0_1 l0_2 1048576).bind fun t709 => (if t709 < 0 then (some true) else ((laws_toCircuit.f k a0_0 l0_1 l0_2).bind fun bt710 => ((spec_PruneCircuit.f k bt710.1 bt710.2.1 bt710.2.2).bind fun bt717 => ((laws_toCircuit.f k a0_0 l0_1 l0_2).bind fun bt726 => ((impl_PruneCircuit.f k bt726.1 bt726.2.1 bt726.2.2).bind fun bt734 => ((laws_eqCircuit.f k bt734.1 bt734.2.1 bt734.2.2.1 bt717.1 bt717.2.1 bt717.2.2.1).bind fun t743 => (if t743 = true then (laws_FnExactPruneCircuit.j0 k bt717.2.2.2 bt734.2.2.2 (bt734.2.2.2 != bt717.2.2.2) a0_0 l0_1 l0_2 bt717.1 bt717.2.1 bt717.2.2.1 bt726.1 bt726.2.1 bt726.2.2 bt734.1 bt734.2.1 bt734.2.2.1) else (laws_FnExactPruneCircuit.j0 k bt717.2.2.2 bt734.2.2.2 true a0_0 l0_1 l0_2 bt717.1 bt717.2.1 bt717.2.2.1 bt726.1 bt726.2.1 bt726.2.2 bt734.1 bt734.2.1 bt734.2.2.1))))))))
theorem laws_FnExactPruneCircuit.mono_l : ∀ k, (∀ y0 y1 y2 y3 y4 y5 y6 y7 y8 y9 y10 y11 y12 y13 y14, LeO (laws_FnExactPruneCircuit.j0 k y0 y1 y2 y3 y4 y5 y6 y7 y8 y9 y10 y11 y12 y13 y14) (laws_FnExactPruneCircuit.j0 (k + 1) y0 y1 y2 y3 y4 y5 y6 y7 y8 y9 y10 y11 y12 y13 y14)) ∧ (∀ y0 y1 y2 y3 y4 y5 y6 y7 y8 y9 y10, LeO (laws_FnExactPruneCircuit.j1 k y0 y1 y2 y3 y4 y5 y6 y7 y8 y9 y10) (laws_FnExactPruneCircuit.j1 (k + 1) y0 y1 y2 y3 y4 y5 y6 y7 y8 y9 y10)) ∧ (∀ y0 y1 y2 y3 y4, LeO (laws_FnExactPruneCircuit.j2 k y0 y1 y2 y3 y4) (laws_FnExactPruneCircuit.j2 (k + 1) y0 y1 y2 y3 y4))
 | 0 => ⟨fun _ _ _ _ _ _ _ _ _ _ _ _ _ _ _ r h => by simp [laws_FnExactPruneCircuit.j0] at h, fun _ _ _ _ _ _ _ _ _ _ _ r h => by simp [laws_FnExactPruneCircuit.j1] at h, fun _ _ _ _ _ r h => by simp [laws_FnExactPruneCircuit.j2] at h⟩
 | k + 1 => by
  obtain ⟨ih0, ih1, ih2⟩ := laws_FnExactPruneCircuit.mono_l k
  refine ⟨?_, ?_, ?_⟩
  ·intro y0 y1 y2 y3 y4 y5 y6 y7 y8 y9 y10 y11 y12 y13 y14
   unfold laws_FnExactPruneCircuit.j0
   repeat' first
   | (with_reducible exact ih0 _ _ _ _ _ _ _ _ _ _ _ _ _ _ _)
   | (with_reducible exact ih1 _ _ _ _ _ _ _ _ _ _ _)
   | (with_reducible exact ih2 _ _ _ _ _)
   | (with_reducible exact impl_PruneCircuit.mono _ _ _ _)
   | (with_reducible exact laws_eqCircuit.mono _ _ _ _ _ _ _)
   | (with_reducible exact laws_heldCircuit.mono _ _ _ _ _)
   | (with_reducible exact laws_markCircuit.mono _ _ _ _ _)
   | (with_reducible exact laws_toCircuit.mono _ _ _ _)
   | (with_reducible exact spec_PruneCircuit.mono _ _ _ _)
   | (with_reducible first | exact LeO.refl _ | exact LeO.none _ | refine LeO.ite ?_ ?_ | refine LeO.bind ?_ (fun _ => ?_))
   | exact ih0 _ _ _ _ _ _ _ _ _ _ _ _ _ _ _
   | exact ih1 _ _ _ _ _ _ _ _ _ _ _
   | exact ih2 _ _ _ _ _
   | exact impl_PruneCircuit.mono _ _ _ _
   | exact laws_eqCircuit.mono _ _ _ _ _ _ _
   | exact laws_heldCircuit.mono _ _ _ _ _
   | exact laws_markCircuit.mono _ _ _ _ _
   | exact laws_toCircuit.mono _ _ _ _
   | exact spec_PruneCircuit.mono _ _ _ _
   | exact LeO.none _ | refine LeO.ite ?_ ?_ | refine LeO.bind ?_ (fun _ => ?_)
  ·intro y0 y1 y2 y3 y4 y5 y6 y7 y8 y9 y10
   unfold laws_FnExactPruneCircuit.j1
   repeat' first
   | (with_reducible exact ih0 _ _ _ _ _ _ _ _ _ _ _ _ _ _ _)
   | (with_reducible exact ih1 _ _ _ _ _ _ _ _ _ _ _)
   | (with_reducible exact ih2 _ _ _ _ _)
   | (with_reducible exact impl_PruneCircuit.mono _ _ _ _)
   | (with_reducible exact laws_eqCircuit.mono _ _ _ _ _ _ _)
   | (with_reducible exact laws_heldCircuit.mono _ _ _ _ _)
   | (with_reducible exact laws_markCircuit.mono _ _ _ _ _)
   | (with_reducible exact laws_toCircuit.mono _ _ _ _)
   | (with_reducible exact spec_PruneCircuit.mono _ _ _ _)
   | (with_reducible first | exact LeO.refl _ | exact LeO.none _ | refine LeO.ite ?_ ?_ | refine LeO.bind ?_ (fun _ => ?_))
   | exact ih0 _ _ _ _ _ _ _ _ _ _ _ _ _ _ _
   | exact ih1 _ _ _ _ _ _ _ _ _ _ _
   | exact ih2 _ _ _ _ _
   | exact impl_PruneCircuit.mono _ _ _ _
   | exact laws_eqCircuit.mono _ _ _ _ _ _ _
   | exact laws_heldCircuit.mono _ _ _ _ _
   | exact laws_markCircuit.mono _ _ _ _ _
   | exact laws_toCircuit.mono _ _ _ _
   | exact spec_PruneCircuit.mono _ _ _ _
   | exact LeO.none _ | refine LeO.ite ?_ ?_ | refine LeO.bind ?_ (fun _ => ?_)
  ·intro y0 y1 y2 y3 y4
   unfold laws_FnExactPruneCircuit.j2
   repeat' first
   | (with_reducible exact ih0 _ _ _ _ _ _ _ _ _ _ _ _ _ _ _)
   | (with_reducible exact ih1 _ _ _ _ _ _ _ _ _ _ _)
   | (with_reducible exact ih2 _ _ _ _ _)
   | (with_reducible exact impl_PruneCircuit.mono _ _ _ _)
   | (with_reducible exact laws_eqCircuit.mono _ _ _ _ _ _ _)
   | (with_reducible exact laws_heldCircuit.mono _ _ _ _ _)
   | (with_reducible exact laws_markCircuit.mono _ _ _ _ _)
   | (with_reducible exact laws_toCircuit.mono _ _ _ _)
   | (with_reducible exact spec_PruneCircuit.mono _ _ _ _)
   | (with_reducible first | exact LeO.refl _ | exact LeO.none _ | refine LeO.ite ?_ ?_ | refine LeO.bind ?_ (fun _ => ?_))
   | exact ih0 _ _ _ _ _ _ _ _ _ _ _ _ _ _ _
   | exact ih1 _ _ _ _ _ _ _ _ _ _ _
   | exact ih2 _ _ _ _ _
   | exact impl_PruneCircuit.mono _ _ _ _
   | exact laws_eqCircuit.mono _ _ _ _ _ _ _
   | exact laws_heldCircuit.mono _ _ _ _ _
   | exact laws_markCircuit.mono _ _ _ _ _
   | exact laws_toCircuit.mono _ _ _ _
   | exact spec_PruneCircuit.mono _ _ _ _
   | exact LeO.none _ | refine LeO.ite ?_ ?_ | refine LeO.bind ?_ (fun _ => ?_)
theorem laws_FnExactPruneCircuit.mono : ∀ a0 a1 a2 k, LeO (laws_FnExactPruneCircuit.f k a0 a1 a2) (laws_FnExactPruneCircuit.f (k + 1) a0 a1 a2) := by
 intro a0 a1 a2 k
 obtain ⟨ih0, ih1, ih2⟩ := laws_FnExactPruneCircuit.mono_l k
 unfold laws_FnExactPruneCircuit.f
 repeat' first
   | (with_reducible exact ih0 _ _ _ _ _ _ _ _ _ _ _ _ _ _ _)
   | (with_reducible exact ih1 _ _ _ _ _ _ _ _ _ _ _)
   | (with_reducible exact ih2 _ _ _ _ _)
   | (with_reducible exact impl_PruneCircuit.mono _ _ _ _)
   | (with_reducible exact laws_eqCircuit.mono _ _ _ _ _ _ _)
   | (with_reducible exact laws_heldCircuit.mono _ _ _ _ _)
   | (with_reducible exact laws_markCircuit.mono _ _ _ _ _)
   | (with_reducible exact laws_toCircuit.mono _ _ _ _)
   | (with_reducible exact spec_PruneCircuit.mono _ _ _ _)
   | (with_reducible first | exact LeO.refl _ | exact LeO.none _ | refine LeO.ite ?_ ?_ | refine LeO.bind ?_ (fun _ => ?_))
   | exact ih0 _ _ _ _ _ _ _ _ _ _ _ _ _ _ _
   | exact ih1 _ _ _ _ _ _ _ _ _ _ _
   | exact ih2 _ _ _ _ _
   | exact impl_PruneCircuit.mono _ _ _ _
   | exact laws_eqCircuit.mono _ _ _ _ _ _ _
   | exact laws_heldCircuit.mono _ _ _ _ _
   | exact laws_markCircuit.mono _ _ _ _ _
   | exact laws_toCircuit.mono _ _ _ _
   | exact spec_PruneCircuit.mono _ _ _ _
   | exact LeO.none _ | refine LeO.ite ?_ ?_ | refine LeO.bind ?_ (fun _ => ?_)
set_option maxHeartbeats 8000000 in
set_option maxRecDepth 100000 in
theorem laws_FnExactPruneCircuit.calls (k : Nat) (a0_0 : Int) (A0_1 : Option Addr) (c0_1 : Nat) (l0_1 : List (S82)) (A0_2 : Option Addr) (c0_2 : Nat) (l0_2 : List Int) (r : Bool) (w : World) (hr0_1 : Kd.C k82 w A0_1 l0_1.length l0_1) (hc0_1 : l0_1.length ≤ c0_1) (hr0_2 : Kd.C (Kd.int .i64) w A0_2 l0_2.length l0_2) (hc0_2 : l0_2.length ≤ c0_2) (h : laws_FnExactPruneCircuit.f k a0_0 l0_1 l0_2 = some true) :
  Calls Try.prog 7 #[.agg #[.int .i64 a0_0, .slice A0_1 l0_1.length c0_1, .slice A0_2 l0_2.length c0_2]] w fun e w' => e = .returned (.bool true) ∧ Below w.heap.size w w' := by
 have hu25 := Try.underlying25
 have hu30 := Try.underlying30
 have HR0_1 := Aside0.mk hr0_1
 have HC0_1 := Aside0.mk hc0_1
 clear hr0_1 hc0_1
 have HR0_2 := Aside0.mk hr0_2
 have HC0_2 := Aside0.mk hc0_2
 clear hr0_2 hc0_2
 have HB := Aside0.mk (Below.refl w.heap.size w)
 have H : ((laws_szCircuit.f a0_0 l0_1 l0_2 1048576).bind fun t709 => (if t709 < 0 then (some true) else ((laws_toCircuit.f k a0_0 l0_1 l0_2).bind fun bt710 => ((spec_PruneCircuit.f k bt710.1 bt710.2.1 bt710.2.2).bind fun bt717 => ((laws_toCircuit.f k a0_0 l0_1 l0_2).bind fun bt726 => ((impl_PruneCircuit.f k bt726.1 bt726.2.1 bt726.2.2).bind fun bt734 => ((laws_eqCircuit.f k bt734.1 bt734.2.1 bt734.2.2.1 bt717.1 bt717.2.1 bt717.2.2.1).bind fun t743 => (if t743 = true then (laws_FnExactPruneCircuit.j0 k bt717.2.2.2 bt734.2.2.2 (bt734.2.2.2 != bt717.2.2.2) a0_0 l0_1 l0_2 bt717.1 bt717.2.1 bt717.2.2.1 bt726.1 bt726.2.1 bt726.2.2 bt734.1 bt734.2.1 bt734.2.2.1) else (laws_FnExactPruneCircuit.j0 k bt717.2.2.2 bt734.2.2.2 true a0_0 l0_1 l0_2 bt717.1 bt717.2.1 bt717.2.2.1 bt726.1 bt726.2.1 bt726.2.2 bt734.1 bt734.2.1 bt734.2.2.1))))))))) = some true := h
 clear h
 replace H := Option.bind_eq_some_iff.mp H
 obtain ⟨t709, A20, H⟩ := H
 replace H : (if t709 < 0 then (some true) else ((laws_toCircuit.f k a0_0 l0_1 l0_2).bind fun bt710 => ((spec_PruneCircuit.f k bt710.1 bt710.2.1 bt710.2.2).bind fun bt717 => ((laws_toCircuit.f k a0_0 l0_1 l0_2).bind fun bt726 => ((impl_PruneCircuit.f k bt726.1 bt726.2.1 bt726.2.2).bind fun bt734 => ((laws_eqCircuit.f k bt734.1 bt734.2.1 bt734.2.2.1 bt717.1 bt717.2.1 bt717.2.2.1).bind fun t743 => (if t743 = true then (laws_FnExactPruneCircuit.j0 k bt717.2.2.2 bt734.2.2.2 (bt734.2.2.2 != bt717.2.2.2) a0_0 l0_1 l0_2 bt717.1 bt717.2.1 bt717.2.2.1 bt726.1 bt726.2.1 bt726.2.2 bt734.1 bt734.2.1 bt734.2.2.1) else (laws_FnExactPruneCircuit.j0 k bt717.2.2.2 bt734.2.2.2 true a0_0 l0_1 l0_2 bt717.1 bt717.2.1 bt717.2.2.1 bt726.1 bt726.2.1 bt726.2.2 bt734.1 bt734.2.1 bt734.2.2.1)))))))) = some true := H
 have A2 := Aside0.mk A20
 clear A20
 by_cases c3 : t709 < 0
 ·rw [if_pos c3] at H
  have c3b0 : decide (t709 < 0) = true := decide_eq_true c3
  clear c3
  go_enter Try.func7, Try.ntmps7
  go_wp2_with (first | ((with_reducible refine gate_dst (N := 1) rfl ?_); refine box_event ?hg (N := 1) ?hd (cs := #[.int .i64 a0_0, .slice A0_1 l0_1.length c0_1, .slice A0_2 l0_2.length c0_2]) (t := 25) ?hr ?_; (case hd => rfl); (case hg => rfl); (case hr => first | (go_simp; done) | (go_simp; rfl)); intro gb708 hg w4 hbox hb; have n0_ := Aside0.mk (below_step (qB) hb); have n1_ := Aside0.mk (hbox); have n2_ := Aside0.mk ((by rw [hg]; exact (below_size (qB)) : w.heap.size ≤ gb708)); have n3_ := Aside0.mk ((by rw [hg]; exact (below_size (qB)) : w.heap.size ≤ gb708)); clear HB; have HB := n0_; have BK708 := n1_; have GW708 := n2_; have GE708 := n3_; clear n0_ n1_ n2_ n3_; clear hb hbox hg; have hcz5_0 : w4.cell? ⟨gb708, 0, none⟩ = some (.int .i64 a0_0) := (blk_cell BK708.out 0).trans rfl; have hcz5_1 : w4.cell? ⟨gb708, 1, none⟩ = some (.slice A0_1 l0_1.length c0_1) := (blk_cell BK708.out 1).trans rfl; have hcz5_2 : w4.cell? ⟨gb708, 2, none⟩ = some (.slice A0_2 l0_2.length c0_2) := (blk_cell BK708.out 2).trans rfl; have hfz5_0 := blk_frozen BK708.out 0; have hfz5_1 := blk_frozen BK708.out 1; have hfz5_2 := blk_frozen BK708.out 2) | ((with_reducible refine gate_callee (f := 11) rfl ?_); refine goesL_ (some 16) rfl rfl Try.func11 (by kernel_rfl) rfl #[.agg #[.int .i64 a0_0, .slice A0_1 l0_1.length c0_1, .slice A0_2 l0_2.length c0_2], .int .i64 1048576] rfl qG ?_; (with_reducible refine (laws_szCircuit.calls a0_0 _ _ l0_1 _ _ l0_2 1048576 t709 _ ?side1 ?side2 ?side3 ?side4 A2.out).mono ?_); (case side1 => exact qC (Kd.C_below HR0_1.out HB.out)); (case side2 => exact HC0_1.out); (case side3 => exact qC (Kd.C_below HR0_2.out HB.out)); (case side4 => exact HC0_2.out); rintro e w6 ⟨rfl, hb⟩; refine ⟨_, rfl, ?_⟩; have n0_ := Aside0.mk (blk_below (g := gb708) (o := .cells #[.int .i64 a0_0, .slice A0_1 l0_1.length c0_1, .slice A0_2 l0_2.length c0_2] 25 (0, 0)) (qK BK708.out) hb); have n1_ := Aside0.mk (below_step (qB) hb); clear BK708; clear HB; have BK708 := n0_; have HB := n1_; clear n0_ n1_; (try clear hb); (try clear hb2); (try clear hk); (try clear hi)))
  go_ret
  exact ⟨qE, qB⟩
 ·rw [if_neg c3] at H
  have c3b0 : decide (t709 < 0) = false := decide_eq_false c3
  clear c3
  replace H := Option.bind_eq_some_iff.mp H
  obtain ⟨⟨t710, t711, t714⟩, A70, H⟩ := H
  replace H : ((spec_PruneCircuit.f k t710 t711 t714).bind fun bt717 => ((laws_toCircuit.f k a0_0 l0_1 l0_2).bind fun bt726 => ((impl_PruneCircuit.f k bt726.1 bt726.2.1 bt726.2.2).bind fun bt734 => ((laws_eqCircuit.f k bt734.1 bt734.2.1 bt734.2.2.1 bt717.1 bt717.2.1 bt717.2.2.1).bind fun t743 => (if t743 = true then (laws_FnExactPruneCircuit.j0 k bt717.2.2.2 bt734.2.2.2 (bt734.2.2.2 != bt717.2.2.2) a0_0 l0_1 l0_2 bt717.1 bt717.2.1 bt717.2.2.1 bt726.1 bt726.2.1 bt726.2.2 bt734.1 bt734.2.1 bt734.2.2.1) else (laws_FnExactPruneCircuit.j0 k bt717.2.2.2 bt734.2.2.2 true a0_0 l0_1 l0_2 bt717.1 bt717.2.1 bt717.2.2.1 bt726.1 bt726.2.1 bt726.2.2 bt734.1 bt734.2.1 bt734.2.2.1)))))) = some true := H
  have A7 := Aside0.mk A70
  clear A70
  replace H := Option.bind_eq_some_iff.mp H
  obtain ⟨⟨t717, t718, t721, t724⟩, A80, H⟩ := H
  replace H : ((laws_toCircuit.f k a0_0 l0_1 l0_2).bind fun bt726 => ((impl_PruneCircuit.f k bt726.1 bt726.2.1 bt726.2.2).bind fun bt734 => ((laws_eqCircuit.f k bt734.1 bt734.2.1 bt734.2.2.1 t717 t718 t721).bind fun t743 => (if t743 = true then (laws_FnExactPruneCircuit.j0 k t724 bt734.2.2.2 (bt734.2.2.2 != t724) a0_0 l0_1 l0_2 t717 t718 t721 bt726.1 bt726.2.1 bt726.2.2 bt734.1 bt734.2.1 bt734.2.2.1) else (laws_FnExactPruneCircuit.j0 k t724 bt734.2.2.2 true a0_0 l0_1 l0_2 t717 t718 t721 bt726.1 bt726.2.1 bt726.2.2 bt734.1 bt734.2.1 bt734.2.2.1))))) = some true := H
  have A8 := Aside0.mk A80
  clear A80
  replace H := Option.bind_eq_some_iff.mp H
  obtain ⟨⟨t726, t727, t730⟩, A90, H⟩ := H
  replace H : ((impl_PruneCircuit.f k t726 t727 t730).bind fun bt734 => ((laws_eqCircuit.f k bt734.1 bt734.2.1 bt734.2.2.1 t717 t718 t721).bind fun t743 => (if t743 = true then (laws_FnExactPruneCircuit.j0 k t724 bt734.2.2.2 (bt734.2.2.2 != t724) a0_0 l0_1 l0_2 t717 t718 t721 t726 t727 t730 bt734.1 bt734.2.1 bt734.2.2.1) else (laws_FnExactPruneCircuit.j0 k t724 bt734.2.2.2 true a0_0 l0_1 l0_2 t717 t718 t721 t726 t727 t730 bt734.1 bt734.2.1 bt734.2.2.1)))) = some true := H
  have A9 := Aside0.mk A90
  clear A90
  replace H := Option.bind_eq_some_iff.mp H
  obtain ⟨⟨t734, t735, t738, t741⟩, A100, H⟩ := H
  replace H : ((laws_eqCircuit.f k t734 t735 t738 t717 t718 t721).bind fun t743 => (if t743 = true then (laws_FnExactPruneCircuit.j0 k t724 t741 (t741 != t724) a0_0 l0_1 l0_2 t717 t718 t721 t726 t727 t730 t734 t735 t738) else (laws_FnExactPruneCircuit.j0 k t724 t741 true a0_0 l0_1 l0_2 t717 t718 t721 t726 t727 t730 t734 t735 t738))) = some true := H
  have A10 := Aside0.mk A100
  clear A100
  have HC11 := Aside0.mk H
  clear H
  go_enter Try.func7, Try.ntmps7
  go_upto_region 8 with (first | ((with_reducible refine gate_dst (N := 1) rfl ?_); refine box_event ?hg (N := 1) ?hd (cs := #[.int .i64 a0_0, .slice A0_1 l0_1.length c0_1, .slice A0_2 l0_2.length c0_2]) (t := 25) ?hr ?_; (case hd => rfl); (case hg => rfl); (case hr => first | (go_simp; done) | (go_simp; rfl)); intro gb708 hg w12 hbox hb; have n0_ := Aside0.mk (below_step (qB) hb); have n1_ := Aside0.mk (hbox); have n2_ := Aside0.mk ((by rw [hg]; exact (below_size (qB)) : w.heap.size ≤ gb708)); have n3_ := Aside0.mk ((by rw [hg]; exact (below_size (qB)) : w.heap.size ≤ gb708)); clear HB; have HB := n0_; have BK708 := n1_; have GW708 := n2_; have GE708 := n3_; clear n0_ n1_ n2_ n3_; clear hb hbox hg; have hcz13_0 : w12.cell? ⟨gb708, 0, none⟩ = some (.int .i64 a0_0) := (blk_cell BK708.out 0).trans rfl; have hcz13_1 : w12.cell? ⟨gb708, 1, none⟩ = some (.slice A0_1 l0_1.length c0_1) := (blk_cell BK708.out 1).trans rfl; have hcz13_2 : w12.cell? ⟨gb708, 2, none⟩ = some (.slice A0_2 l0_2.length c0_2) := (blk_cell BK708.out 2).trans rfl; have hfz13_0 := blk_frozen BK708.out 0; have hfz13_1 := blk_frozen BK708.out 1; have hfz13_2 := blk_frozen BK708.out 2) | ((with_reducible refine gate_callee (f := 11) rfl ?_); refine goesL_ (some 16) rfl rfl Try.func11 (by kernel_rfl) rfl #[.agg #[.int .i64 a0_0, .slice A0_1 l0_1.length c0_1, .slice A0_2 l0_2.length c0_2], .int .i64 1048576] rfl qG ?_; (with_reducible refine (laws_szCircuit.calls a0_0 _ _ l0_1 _ _ l0_2 1048576 t709 _ ?side1 ?side2 ?side3 ?side4 A2.out).mono ?_); (case side1 => exact qC (Kd.C_below HR0_1.out HB.out)); (case side2 => exact HC0_1.out); (case side3 => exact qC (Kd.C_below HR0_2.out HB.out)); (case side4 => exact HC0_2.out); rintro e w14 ⟨rfl, hb⟩; refine ⟨_, rfl, ?_⟩; have n0_ := Aside0.mk (blk_below (g := gb708) (o := .cells #[.int .i64 a0_0, .slice A0_1 l0_1.length c0_1, .slice A0_2 l0_2.length c0_2] 25 (0, 0)) (qK BK708.out) hb); have n1_ := Aside0.mk (below_step (qB) hb); clear BK708; clear HB; have BK708 := n0_; have HB := n1_; clear n0_ n1_; (try clear hb); (try clear hb2); (try clear hk); (try clear hi); have hcz15_0 : w14.cell? ⟨gb708, 0, none⟩ = some (.int .i64 a0_0) := (blk_cell BK708.out 0).trans rfl; have hcz15_1 : w14.cell? ⟨gb708, 1, none⟩ = some (.slice A0_1 l0_1.length c0_1) := (blk_cell BK708.out 1).trans rfl; have hcz15_2 : w14.cell? ⟨gb708, 2, none⟩ = some (.slice A0_2 l0_2.length c0_2) := (blk_cell BK708.out 2).trans rfl; have hfz15_0 := blk_frozen BK708.out 0; have hfz15_1 := blk_frozen BK708.out 1; have hfz15_2 := blk_frozen BK708.out 2) | ((with_reducible refine gate_callee (f := 13) rfl ?_); refine goesL_ (some 21) rfl rfl Try.func13 (by kernel_rfl) rfl #[.agg #[.int .i64 a0_0, .slice A0_1 l0_1.length c0_1, .slice A0_2 l0_2.length c0_2]] rfl qG ?_; (with_reducible refine (laws_toCircuit.calls k a0_0 _ _ l0_1 _ _ l0_2 t710 t711 t714 _ ?side1 ?side2 ?side3 ?side4 A7.out).mono ?_); (case side1 => exact qC (Kd.C_below HR0_1.out HB.out)); (case side2 => exact HC0_1.out); (case side3 => exact qC (Kd.C_below HR0_2.out HB.out)); (case side4 => exact HC0_2.out); rintro e w16 ⟨v712, v715, rfl, ho0, ho1, hb⟩; refine ⟨_, rfl, ?_⟩; have n0_ := Aside0.mk (Kd.R_lower ho0 (below_size (qB))); have n1_ := Aside0.mk (Kd.R_lower ho1 (below_size (qB))); have n2_ := Aside0.mk (blk_below (g := gb708) (o := .cells #[.int .i64 a0_0, .slice A0_1 l0_1.length c0_1, .slice A0_2 l0_2.length c0_2] 25 (0, 0)) (qK BK708.out) hb); have n3_ := Aside0.mk (below_step (qB) hb); clear BK708; clear HB; have HO713 := n0_; have HO716 := n1_; have BK708 := n2_; have HB := n3_; clear n0_ n1_ n2_ n3_; (try clear hb); (try clear hb2); (try clear hk); (try clear hi); (try clear ho0); (try clear ho1); obtain ⟨Ao17, co17, eo17⟩ := Kd.R_slice HO713.out; subst eo17; obtain ⟨Ao18, co18, eo18⟩ := Kd.R_slice HO716.out; subst eo18) | ((with_reducible refine gate_callee (f := 30) rfl ?_); refine goesL_ (some 22) rfl rfl Try.func30 (by kernel_rfl) rfl #[.agg #[.int .i64 t710, .slice Ao17 t711.length co17, .slice Ao18 t714.length co18]] rfl qG ?_; (with_reducible refine (spec_PruneCircuit.calls k t710 _ _ t711 _ _ t714 t717 t718 t721 t724 _ ?side1 ?side2 ?side3 ?side4 A8.out).mono ?_); (case side1 => repeat (first | exact (Kd.R_reads' HO713.out).2.2 | (with_reducible refine Kd.C_alloc ?_ _) | (with_reducible refine Kd.C_drewN ?_ _) | (with_reducible refine Kd.C_drew ?_))); (case side2 => exact (Kd.R_reads' HO713.out).2.1); (case side3 => repeat (first | exact (Kd.R_reads' HO716.out).2.2 | (with_reducible refine Kd.C_alloc ?_ _) | (with_reducible refine Kd.C_drewN ?_ _) | (with_reducible refine Kd.C_drew ?_))); (case side4 => exact (Kd.R_reads' HO716.out).2.1); rintro e w19 ⟨v719, v722, rfl, ho0, ho1, hb⟩; refine ⟨_, rfl, ?_⟩; have n0_ := Aside0.mk (Kd.R_elder' (qR HO713.out) (Kd.R_base ho0) hb); have n1_ := Aside0.mk (Kd.R_elder' (qR HO716.out) (Kd.R_base ho1) hb); have n2_ := Aside0.mk (Kd.R_lower (Kd.R_new' ho0 (Kd.R_lt (qR HO713.out))) (below_size (qB))); have n3_ := Aside0.mk (Kd.R_lower (Kd.R_new' ho1 (Kd.R_lt (qR HO716.out))) (below_size (qB))); have n4_ := Aside0.mk (blk_below (g := gb708) (o := .cells #[.int .i64 a0_0, .slice A0_1 l0_1.length c0_1, .slice A0_2 l0_2.length c0_2] 25 (0, 0)) (qK BK708.out) hb); have n5_ := Aside0.mk (below_step (qB) hb); clear HO713; clear HO716; clear BK708; clear HB; have HO713 := n0_; have HO716 := n1_; have HO720 := n2_; have HO723 := n3_; have BK708 := n4_; have HB := n5_; clear n0_ n1_ n2_ n3_ n4_ n5_; (try clear hb); (try clear hb2); (try clear hk); (try clear hi); (try clear ho0); (try clear ho1)) | ((with_reducible refine gate_dst (N := 4) rfl ?_); refine box_event ?hg (N := 4) ?hd (cs := #[.int .i64 0, .slice none 0 0, .slice none 0 0]) (t := 30) ?hr ?_; (case hd => rfl); (case hg => rfl); (case hr => first | (go_simp; done) | (go_simp; rfl)); intro gb725 hg w20 hbox hb; have n0_ := Aside0.mk (Kd.R_below (qR HO713.out) hb); have n1_ := Aside0.mk (Kd.R_below (qR HO716.out) hb); have n2_ := Aside0.mk (Kd.R_below (qR HO720.out) hb); have n3_ := Aside0.mk (Kd.R_below (qR HO723.out) hb); have n4_ := Aside0.mk (blk_below (g := gb708) (o := .cells #[.int .i64 a0_0, .slice A0_1 l0_1.length c0_1, .slice A0_2 l0_2.length c0_2] 25 (0, 0)) (qK BK708.out) hb); have n5_ := Aside0.mk (below_step (qB) hb); have n6_ := Aside0.mk (hbox); have n7_ := Aside0.mk ((by rw [hg]; exact (below_size (qB)) : w.heap.size ≤ gb725)); have n8_ := Aside0.mk ((by rw [hg]; exact (below_size (qB)) : w.heap.size ≤ gb725)); have n9_ := Aside0.mk ((by rw [hg]; exact Nat.ne_of_lt (blk_lt (g := gb708) (o := .cells #[.int .i64 a0_0, .slice A0_1 l0_1.length c0_1, .slice A0_2 l0_2.length c0_2] 25 (0, 0)) (qK BK708.out)) : gb708 ≠ gb725)); have n10_ := Aside0.mk ((by rw [hg]; exact Nat.ne_of_gt (blk_lt (g := gb708) (o := .cells #[.int .i64 a0_0, .slice A0_1 l0_1.length c0_1, .slice A0_2 l0_2.length c0_2] 25 (0, 0)) (qK BK708.out)) : gb725 ≠ gb708)); clear HO713; clear HO716; clear HO720; clear HO723; clear BK708; clear HB; have HO713 := n0_; have HO716 := n1_; have HO720 := n2_; have HO723 := n3_; have BK708 := n4_; have HB := n5_; have BK725 := n6_; have GW725 := n7_; have GE725 := n8_; have NB708_725 := n9_; have NB725_708 := n10_; clear n0_ n1_ n2_ n3_ n4_ n5_ n6_ n7_ n8_ n9_ n10_; clear hb hbox hg; have hnb21 := NB725_708.out; have hnc21 := NB708_725.out; have hcz22_0 : w20.cell? ⟨gb725, 0, none⟩ = some (.int .i64 0) := (blk_cell BK725.out 0).trans rfl; have hcz22_1 : w20.cell? ⟨gb725, 1, none⟩ = some (.slice none 0 0) := (blk_cell BK725.out 1).trans rfl; have hcz22_2 : w20.cell? ⟨gb725, 2, none⟩ = some (.slice none 0 0) := (blk_cell BK725.out 2).trans rfl; have hfz22_0 := blk_frozen BK725.out 0; have hfz22_1 := blk_frozen BK725.out 1; have hfz22_2 := blk_frozen BK725.out 2; obtain ⟨Ao23, co23, eo23⟩ := Kd.R_slice HO720.out; subst eo23; obtain ⟨Ao24, co24, eo24⟩ := Kd.R_slice HO723.out; subst eo24; have hcz25_0 : w20.cell? ⟨gb708, 0, none⟩ = some (.int .i64 a0_0) := (blk_cell BK708.out 0).trans rfl; have hcz25_1 : w20.cell? ⟨gb708, 1, none⟩ = some (.slice A0_1 l0_1.length c0_1) := (blk_cell BK708.out 1).trans rfl; have hcz25_2 : w20.cell? ⟨gb708, 2, none⟩ = some (.slice A0_2 l0_2.length c0_2) := (blk_cell BK708.out 2).trans rfl; have hfz25_0 := blk_frozen BK708.out 0; have hfz25_1 := blk_frozen BK708.out 1; have hfz25_2 := blk_frozen BK708.out 2) | ((with_reducible refine gate_callee (f := 13) rfl ?_); refine goesL_ (some 26) rfl rfl Try.func13 (by kernel_rfl) rfl #[.agg #[.int .i64 a0_0, .slice A0_1 l0_1.length c0_1, .slice A0_2 l0_2.length c0_2]] rfl qG ?_; (with_reducible refine (laws_toCircuit.calls k a0_0 _ _ l0_1 _ _ l0_2 t726 t727 t730 _ ?side1 ?side2 ?side3 ?side4 A9.out).mono ?_); (case side1 => exact Kd.C_below HR0_1.out (qB)); (case side2 => exact HC0_1.out); (case side3 => exact Kd.C_below HR0_2.out (qB)); (case side4 => exact HC0_2.out); rintro e w26 ⟨v728, v731, rfl, ho0, ho1, hb⟩; refine ⟨_, rfl, ?_⟩; have n0_ := Aside0.mk (Kd.R_elder' (by (with_reducible repeat (first | apply Kd.R_alloc | apply Kd.R_drewN | apply Kd.R_drew)); exact (Kd.R_mono (Kd.R_far (p := ⟨gb725, 2, none⟩) (Kd.R_far (p := ⟨gb725, 1, none⟩) (Kd.R_far (p := ⟨gb725, 0, none⟩) (Kd.R_types HO713.out BK725.out (by decide)) (fun _ hk => hk.2) (.int .i64 t717)) (fun _ hk => hk.2) (.slice Ao23 t718.length co23)) (fun _ hk => hk.2) (.slice Ao24 t721.length co24)) (fun _ h_ => h_.1))) (Kd.R_base ho0) hb); have n1_ := Aside0.mk (Kd.R_elder' (by (with_reducible repeat (first | apply Kd.R_alloc | apply Kd.R_drewN | apply Kd.R_drew)); exact (Kd.R_mono (Kd.R_far (p := ⟨gb725, 2, none⟩) (Kd.R_far (p := ⟨gb725, 1, none⟩) (Kd.R_far (p := ⟨gb725, 0, none⟩) (Kd.R_types HO716.out BK725.out (by decide)) (fun _ hk => hk.2) (.int .i64 t717)) (fun _ hk => hk.2) (.slice Ao23 t718.length co23)) (fun _ hk => hk.2) (.slice Ao24 t721.length co24)) (fun _ h_ => h_.1))) (Kd.R_base ho1) hb); have n2_ := Aside0.mk (Kd.R_elder' (by (with_reducible repeat (first | apply Kd.R_alloc | apply Kd.R_drewN | apply Kd.R_drew)); exact (Kd.R_mono (Kd.R_far (p := ⟨gb725, 2, none⟩) (Kd.R_far (p := ⟨gb725, 1, none⟩) (Kd.R_far (p := ⟨gb725, 0, none⟩) (Kd.R_types HO720.out BK725.out (by decide)) (fun _ hk => hk.2) (.int .i64 t717)) (fun _ hk => hk.2) (.slice Ao23 t718.length co23)) (fun _ hk => hk.2) (.slice Ao24 t721.length co24)) (fun _ h_ => h_.1))) (Kd.R_base ho0) hb); have n3_ := Aside0.mk (Kd.R_elder' (by (with_reducible repeat (first | apply Kd.R_alloc | apply Kd.R_drewN | apply Kd.R_drew)); exact (Kd.R_mono (Kd.R_far (p := ⟨gb725, 2, none⟩) (Kd.R_far (p := ⟨gb725, 1, none⟩) (Kd.R_far (p := ⟨gb725, 0, none⟩) (Kd.R_types HO723.out BK725.out (by decide)) (fun _ hk => hk.2) (.int .i64 t717)) (fun _ hk => hk.2) (.slice Ao23 t718.length co23)) (fun _ hk => hk.2) (.slice Ao24 t721.length co24)) (fun _ h_ => h_.1))) (Kd.R_base ho1) hb); have n4_ := Aside0.mk (Kd.R_lower (Kd.R_new' (Kd.R_new' ho0 (Kd.R_lt (by (with_reducible repeat (first | apply Kd.R_alloc | apply Kd.R_drewN | apply Kd.R_drew)); exact (Kd.R_mono (Kd.R_far (p := ⟨gb725, 2, none⟩) (Kd.R_far (p := ⟨gb725, 1, none⟩) (Kd.R_far (p := ⟨gb725, 0, none⟩) (Kd.R_types HO713.out BK725.out (by decide)) (fun _ hk => hk.2) (.int .i64 t717)) (fun _ hk => hk.2) (.slice Ao23 t718.length co23)) (fun _ hk => hk.2) (.slice Ao24 t721.length co24)) (fun _ h_ => h_.1))))) (Kd.R_lt (by (with_reducible repeat (first | apply Kd.R_alloc | apply Kd.R_drewN | apply Kd.R_drew)); exact (Kd.R_mono (Kd.R_far (p := ⟨gb725, 2, none⟩) (Kd.R_far (p := ⟨gb725, 1, none⟩) (Kd.R_far (p := ⟨gb725, 0, none⟩) (Kd.R_types HO720.out BK725.out (by decide)) (fun _ hk => hk.2) (.int .i64 t717)) (fun _ hk => hk.2) (.slice Ao23 t718.length co23)) (fun _ hk => hk.2) (.slice Ao24 t721.length co24)) (fun _ h_ => h_.1))))) (below_size (qB))); have n5_ := Aside0.mk (Kd.R_lower (Kd.R_new' (Kd.R_new' ho1 (Kd.R_lt (by (with_reducible repeat (first | apply Kd.R_alloc | apply Kd.R_drewN | apply Kd.R_drew)); exact (Kd.R_mono (Kd.R_far (p := ⟨gb725, 2, none⟩) (Kd.R_far (p := ⟨gb725, 1, none⟩) (Kd.R_far (p := ⟨gb725, 0, none⟩) (Kd.R_types HO716.out BK725.out (by decide)) (fun _ hk => hk.2) (.int .i64 t717)) (fun _ hk => hk.2) (.slice Ao23 t718.length co23)) (fun _ hk => hk.2) (.slice Ao24 t721.length co24)) (fun _ h_ => h_.1))))) (Kd.R_lt (by (with_reducible repeat (first | apply Kd.R_alloc | apply Kd.R_drewN | apply Kd.R_drew)); exact (Kd.R_mono (Kd.R_far (p := ⟨gb725, 2, none⟩) (Kd.R_far (p := ⟨gb725, 1, none⟩) (Kd.R_far (p := ⟨gb725, 0, none⟩) (Kd.R_types HO723.out BK725.out (by decide)) (fun _ hk => hk.2) (.int .i64 t717)) (fun _ hk => hk.2) (.slice Ao23 t718.length co23)) (fun _ hk => hk.2) (.slice Ao24 t721.length co24)) (fun _ h_ => h_.1))))) (below_size (qB))); have n6_ := Aside0.mk (blk_below (g := gb708) (o := .cells #[.int .i64 a0_0, .slice A0_1 l0_1.length c0_1, .slice A0_2 l0_2.length c0_2] 25 (0, 0)) (qF BK708.out) hb); have n7_ := Aside0.mk (blk_below (g := gb725) (o := .cells #[.int .i64 t717, .slice Ao23 t718.length co23, .slice Ao24 t721.length co24] 30 (0, 0)) (by (with_reducible repeat (first | refine blk_drewN ?_ _ | refine blk_drew ?_ | refine blk_alloc ?_ _)); refine blk_put (cs := #[.int .i64 t717, .slice Ao23 t718.length co23, .slice none 0 0]) ?_ 2 _ rfl; refine blk_put (cs := #[.int .i64 t717, .slice none 0 0, .slice none 0 0]) ?_ 1 _ rfl; refine blk_put (cs := #[.int .i64 0, .slice none 0 0, .slice none 0 0]) ?_ 0 _ rfl; exact qK BK725.out) hb); have n8_ := Aside0.mk (below_step (qB) hb); clear HO713; clear HO716; clear HO720; clear HO723; clear BK708; clear BK725; clear HB; have HO713 := n0_; have HO716 := n1_; have HO720 := n2_; have HO723 := n3_; have HO729 := n4_; have HO732 := n5_; have BK708 := n6_; have BK725 := n7_; have HB := n8_; clear n0_ n1_ n2_ n3_ n4_ n5_ n6_ n7_ n8_; (try clear hb); (try clear hb2); (try clear hk); (try clear hi); (try clear ho0); (try clear ho1)) | ((with_reducible refine gate_dst (N := 6) rfl ?_); refine box_event ?hg (N := 6) ?hd (cs := #[.int .i64 0, .slice none 0 0, .slice none 0 0]) (t := 30) ?hr ?_; (case hd => rfl); (case hg => rfl); (case hr => first | (go_simp; done) | (go_simp; rfl)); intro gb733 hg w27 hbox hb; have n0_ := Aside0.mk (Kd.R_below (qR HO713.out) hb); have n1_ := Aside0.mk (Kd.R_below (qR HO716.out) hb); have n2_ := Aside0.mk (Kd.R_below (qR HO720.out) hb); have n3_ := Aside0.mk (Kd.R_below (qR HO723.out) hb); have n4_ := Aside0.mk (Kd.R_below (qR HO729.out) hb); have n5_ := Aside0.mk (Kd.R_below (qR HO732.out) hb); have n6_ := Aside0.mk (blk_below (g := gb708) (o := .cells #[.int .i64 a0_0, .slice A0_1 l0_1.length c0_1, .slice A0_2 l0_2.length c0_2] 25 (0, 0)) (qK BK708.out) hb); have n7_ := Aside0.mk (blk_below (g := gb725) (o := .cells #[.int .i64 t717, .slice Ao23 t718.length co23, .slice Ao24 t721.length co24] 30 (0, 0)) (qK BK725.out) hb); have n8_ := Aside0.mk (below_step (qB) hb); have n9_ := Aside0.mk (hbox); have n10_ := Aside0.mk ((by rw [hg]; exact (below_size (qB)) : w.heap.size ≤ gb733)); have n11_ := Aside0.mk ((by rw [hg]; exact (below_size (qB)) : w.heap.size ≤ gb733)); have n12_ := Aside0.mk ((by rw [hg]; exact Nat.ne_of_lt (blk_lt (g := gb708) (o := .cells #[.int .i64 a0_0, .slice A0_1 l0_1.length c0_1, .slice A0_2 l0_2.length c0_2] 25 (0, 0)) (qK BK708.out)) : gb708 ≠ gb733)); have n13_ := Aside0.mk ((by rw [hg]; exact Nat.ne_of_gt (blk_lt (g := gb708) (o := .cells #[.int .i64 a0_0, .slice A0_1 l0_1.length c0_1, .slice A0_2 l0_2.length c0_2] 25 (0, 0)) (qK BK708.out)) : gb733 ≠ gb708)); have n14_ := Aside0.mk ((by rw [hg]; exact Nat.ne_of_lt (blk_lt (g := gb725) (o := .cells #[.int .i64 t717, .slice Ao23 t718.length co23, .slice Ao24 t721.length co24] 30 (0, 0)) (qK BK725.out)) : gb725 ≠ gb733)); have n15_ := Aside0.mk ((by rw [hg]; exact Nat.ne_of_gt (blk_lt (g := gb725) (o := .cells #[.int .i64 t717, .slice Ao23 t718.length co23, .slice Ao24 t721.length co24] 30 (0, 0)) (qK BK725.out)) : gb733 ≠ gb725)); clear HO713; clear HO716; clear HO720; clear HO723; clear HO729; clear HO732; clear BK708; clear BK725; clear HB; have HO713 := n0_; have HO716 := n1_; have HO720 := n2_; have HO723 := n3_; have HO729 := n4_; have HO732 := n5_; have BK708 := n6_; have BK725 := n7_; have HB := n8_; have BK733 := n9_; have GW733 := n10_; have GE733 := n11_; have NB708_733 := n12_; have NB733_708 := n13_; have NB725_733 := n14_; have NB733_725 := n15_; clear n0_ n1_ n2_ n3_ n4_ n5_ n6_ n7_ n8_ n9_ n10_ n11_ n12_ n13_ n14_ n15_; clear hb hbox hg; have hnb28 := NB733_708.out; have hnc28 := NB708_733.out; have hnb29 := NB733_725.out; have hnc29 := NB725_733.out; have hcz30_0 : w27.cell? ⟨gb733, 0, none⟩ = some (.int .i64 0) := (blk_cell BK733.out 0).trans rfl; have hcz30_1 : w27.cell? ⟨gb733, 1, none⟩ = some (.slice none 0 0) := (blk_cell BK733.out 1).trans rfl; have hcz30_2 : w27.cell? ⟨gb733, 2, none⟩ = some (.slice none 0 0) := (blk_cell BK733.out 2).trans rfl; have hfz30_0 := blk_frozen BK733.out 0; have hfz30_1 := blk_frozen BK733.out 1; have hfz30_2 := blk_frozen BK733.out 2; obtain ⟨Ao31, co31, eo31⟩ := Kd.R_slice HO729.out; subst eo31; obtain ⟨Ao32, co32, eo32⟩ := Kd.R_slice HO732.out; subst eo32) | ((with_reducible refine gate_callee (f := 31) rfl ?_); refine goesL_ (some 29) rfl rfl Try.func31 (by kernel_rfl) rfl #[.agg #[.int .i64 t726, .slice Ao31 t727.length co31, .slice Ao32 t730.length co32]] rfl qG ?_; (with_reducible refine (impl_PruneCircuit.calls k t726 _ _ t727 _ _ t730 t734 t735 t738 t741 _ ?side1 ?side2 ?side3 ?side4 A10.out).mono ?_); (case side1 => refine (Kd.R_reads' (e := 59) (base := w.heap.size) (ok := fun k_ => ((True ∧ some k_ ≠ (.slice Ao17 t711.length co17 : Value).ownBlock) ∧ some k_ ≠ (.slice Ao23 t718.length co23 : Value).ownBlock)) (n := t727.length) (c := co31) ?_).2.2; exact (by (with_reducible repeat (first | apply Kd.R_alloc | apply Kd.R_drewN | apply Kd.R_drew)); exact (Kd.R_mono (Kd.R_far (p := ⟨gb733, 2, none⟩) (Kd.R_far (p := ⟨gb733, 1, none⟩) (Kd.R_far (p := ⟨gb733, 0, none⟩) (Kd.R_types HO729.out BK733.out (by decide)) (fun _ hk => hk.2) (.int .i64 t726)) (fun _ hk => hk.2) (.slice Ao31 t727.length co31)) (fun _ hk => hk.2) (.slice Ao32 t730.length co32)) (fun _ h_ => h_.1)))); (case side2 => exact (Kd.R_reads' HO729.out).2.1); (case side3 => refine (Kd.R_reads' (e := 3) (base := w.heap.size) (ok := fun k_ => ((True ∧ some k_ ≠ (.slice Ao18 t714.length co18 : Value).ownBlock) ∧ some k_ ≠ (.slice Ao24 t721.length co24 : Value).ownBlock)) (n := t730.length) (c := co32) ?_).2.2; exact (by (with_reducible repeat (first | apply Kd.R_alloc | apply Kd.R_drewN | apply Kd.R_drew)); exact (Kd.R_mono (Kd.R_far (p := ⟨gb733, 2, none⟩) (Kd.R_far (p := ⟨gb733, 1, none⟩) (Kd.R_far (p := ⟨gb733, 0, none⟩) (Kd.R_types HO732.out BK733.out (by decide)) (fun _ hk => hk.2) (.int .i64 t726)) (fun _ hk => hk.2) (.slice Ao31 t727.length co31)) (fun _ hk => hk.2) (.slice Ao32 t730.length co32)) (fun _ h_ => h_.1)))); (case side4 => exact (Kd.R_reads' HO732.out).2.1); rintro e w33 ⟨v736, v739, rfl, ho0, ho1, hb⟩; refine ⟨_, rfl, ?_⟩; have n0_ := Aside0.mk (Kd.R_elder' (by (with_reducible repeat (first | apply Kd.R_alloc | apply Kd.R_drewN | apply Kd.R_drew)); exact (Kd.R_mono (Kd.R_far (p := ⟨gb733, 2, none⟩) (Kd.R_far (p := ⟨gb733, 1, none⟩) (Kd.R_far (p := ⟨gb733, 0, none⟩) (Kd.R_types HO713.out BK733.out (by decide)) (fun _ hk => hk.2) (.int .i64 t726)) (fun _ hk => hk.2) (.slice Ao31 t727.length co31)) (fun _ hk => hk.2) (.slice Ao32 t730.length co32)) (fun _ h_ => h_.1))) (Kd.R_base ho0) hb); have n1_ := Aside0.mk (Kd.R_elder' (by (with_reducible repeat (first | apply Kd.R_alloc | apply Kd.R_drewN | apply Kd.R_drew)); exact (Kd.R_mono (Kd.R_far (p := ⟨gb733, 2, none⟩) (Kd.R_far (p := ⟨gb733, 1, none⟩) (Kd.R_far (p := ⟨gb733, 0, none⟩) (Kd.R_types HO716.out BK733.out (by decide)) (fun _ hk => hk.2) (.int .i64 t726)) (fun _ hk => hk.2) (.slice Ao31 t727.length co31)) (fun _ hk => hk.2) (.slice Ao32 t730.length co32)) (fun _ h_ => h_.1))) (Kd.R_base ho1) hb); have n2_ := Aside0.mk (Kd.R_elder' (by (with_reducible repeat (first | apply Kd.R_alloc | apply Kd.R_drewN | apply Kd.R_drew)); exact (Kd.R_mono (Kd.R_far (p := ⟨gb733, 2, none⟩) (Kd.R_far (p := ⟨gb733, 1, none⟩) (Kd.R_far (p := ⟨gb733, 0, none⟩) (Kd.R_types HO720.out BK733.out (by decide)) (fun _ hk => hk.2) (.int .i64 t726)) (fun _ hk => hk.2) (.slice Ao31 t727.length co31)) (fun _ hk => hk.2) (.slice Ao32 t730.length co32)) (fun _ h_ => h_.1))) (Kd.R_base ho0) hb); have n3_ := Aside0.mk (Kd.R_elder' (by (with_reducible repeat (first | apply Kd.R_alloc | apply Kd.R_drewN | apply Kd.R_drew)); exact (Kd.R_mono (Kd.R_far (p := ⟨gb733, 2, none⟩) (Kd.R_far (p := ⟨gb733, 1, none⟩) (Kd.R_far (p := ⟨gb733, 0, none⟩) (Kd.R_types HO723.out BK733.out (by decide)) (fun _ hk => hk.2) (.int .i64 t726)) (fun _ hk => hk.2) (.slice Ao31 t727.length co31)) (fun _ hk => hk.2) (.slice Ao32 t730.length co32)) (fun _ h_ => h_.1))) (Kd.R_base ho1) hb); have n4_ := Aside0.mk (Kd.R_elder' (by (with_reducible repeat (first | apply Kd.R_alloc | apply Kd.R_drewN | apply Kd.R_drew)); exact (Kd.R_mono (Kd.R_far (p := ⟨gb733, 2, none⟩) (Kd.R_far (p := ⟨gb733, 1, none⟩) (Kd.R_far (p := ⟨gb733, 0, none⟩) (Kd.R_types HO729.out BK733.out (by decide)) (fun _ hk => hk.2) (.int .i64 t726)) (fun _ hk => hk.2) (.slice Ao31 t727.length co31)) (fun _ hk => hk.2) (.slice Ao32 t730.length co32)) (fun _ h_ => h_.1))) (Kd.R_base ho0) hb); have n5_ := Aside0.mk (Kd.R_elder' (by (with_reducible repeat (first | apply Kd.R_alloc | apply Kd.R_drewN | apply Kd.R_drew)); exact (Kd.R_mono (Kd.R_far (p := ⟨gb733, 2, none⟩) (Kd.R_far (p := ⟨gb733, 1, none⟩) (Kd.R_far (p := ⟨gb733, 0, none⟩) (Kd.R_types HO732.out BK733.out (by decide)) (fun _ hk => hk.2) (.int .i64 t726)) (fun _ hk => hk.2) (.slice Ao31 t727.length co31)) (fun _ hk => hk.2) (.slice Ao32 t730.length co32)) (fun _ h_ => h_.1))) (Kd.R_base ho1) hb); have n6_ := Aside0.mk (Kd.R_lower (Kd.R_new' (Kd.R_new' (Kd.R_new' ho0 (Kd.R_lt (by (with_reducible repeat (first | apply Kd.R_alloc | apply Kd.R_drewN | apply Kd.R_drew)); exact (Kd.R_mono (Kd.R_far (p := ⟨gb733, 2, none⟩) (Kd.R_far (p := ⟨gb733, 1, none⟩) (Kd.R_far (p := ⟨gb733, 0, none⟩) (Kd.R_types HO713.out BK733.out (by decide)) (fun _ hk => hk.2) (.int .i64 t726)) (fun _ hk => hk.2) (.slice Ao31 t727.length co31)) (fun _ hk => hk.2) (.slice Ao32 t730.length co32)) (fun _ h_ => h_.1))))) (Kd.R_lt (by (with_reducible repeat (first | apply Kd.R_alloc | apply Kd.R_drewN | apply Kd.R_drew)); exact (Kd.R_mono (Kd.R_far (p := ⟨gb733, 2, none⟩) (Kd.R_far (p := ⟨gb733, 1, none⟩) (Kd.R_far (p := ⟨gb733, 0, none⟩) (Kd.R_types HO720.out BK733.out (by decide)) (fun _ hk => hk.2) (.int .i64 t726)) (fun _ hk => hk.2) (.slice Ao31 t727.length co31)) (fun _ hk => hk.2) (.slice Ao32 t730.length co32)) (fun _ h_ => h_.1))))) (Kd.R_lt (by (with_reducible repeat (first | apply Kd.R_alloc | apply Kd.R_drewN | apply Kd.R_drew)); exact (Kd.R_mono (Kd.R_far (p := ⟨gb733, 2, none⟩) (Kd.R_far (p := ⟨gb733, 1, none⟩) (Kd.R_far (p := ⟨gb733, 0, none⟩) (Kd.R_types HO729.out BK733.out (by decide)) (fun _ hk => hk.2) (.int .i64 t726)) (fun _ hk => hk.2) (.slice Ao31 t727.length co31)) (fun _ hk => hk.2) (.slice Ao32 t730.length co32)) (fun _ h_ => h_.1))))) (below_size (qB))); have n7_ := Aside0.mk (Kd.R_lower (Kd.R_new' (Kd.R_new' (Kd.R_new' ho1 (Kd.R_lt (by (with_reducible repeat (first | apply Kd.R_alloc | apply Kd.R_drewN | apply Kd.R_drew)); exact (Kd.R_mono (Kd.R_far (p := ⟨gb733, 2, none⟩) (Kd.R_far (p := ⟨gb733, 1, none⟩) (Kd.R_far (p := ⟨gb733, 0, none⟩) (Kd.R_types HO716.out BK733.out (by decide)) (fun _ hk => hk.2) (.int .i64 t726)) (fun _ hk => hk.2) (.slice Ao31 t727.length co31)) (fun _ hk => hk.2) (.slice Ao32 t730.length co32)) (fun _ h_ => h_.1))))) (Kd.R_lt (by (with_reducible repeat (first | apply Kd.R_alloc | apply Kd.R_drewN | apply Kd.R_drew)); exact (Kd.R_mono (Kd.R_far (p := ⟨gb733, 2, none⟩) (Kd.R_far (p := ⟨gb733, 1, none⟩) (Kd.R_far (p := ⟨gb733, 0, none⟩) (Kd.R_types HO723.out BK733.out (by decide)) (fun _ hk => hk.2) (.int .i64 t726)) (fun _ hk => hk.2) (.slice Ao31 t727.length co31)) (fun _ hk => hk.2) (.slice Ao32 t730.length co32)) (fun _ h_ => h_.1))))) (Kd.R_lt (by (with_reducible repeat (first | apply Kd.R_alloc | apply Kd.R_drewN | apply Kd.R_drew)); exact (Kd.R_mono (Kd.R_far (p := ⟨gb733, 2, none⟩) (Kd.R_far (p := ⟨gb733, 1, none⟩) (Kd.R_far (p := ⟨gb733, 0, none⟩) (Kd.R_types HO732.out BK733.out (by decide)) (fun _ hk => hk.2) (.int .i64 t726)) (fun _ hk => hk.2) (.slice Ao31 t727.length co31)) (fun _ hk => hk.2) (.slice Ao32 t730.length co32)) (fun _ h_ => h_.1))))) (below_size (qB))); have n8_ := Aside0.mk (blk_below (g := gb708) (o := .cells #[.int .i64 a0_0, .slice A0_1 l0_1.length c0_1, .slice A0_2 l0_2.length c0_2] 25 (0, 0)) (qF BK708.out) hb); have n9_ := Aside0.mk (blk_below (g := gb725) (o := .cells #[.int .i64 t717, .slice Ao23 t718.length co23, .slice Ao24 t721.length co24] 30 (0, 0)) (qF BK725.out) hb); have n10_ := Aside0.mk (blk_below (g := gb733) (o := .cells #[.int .i64 t726, .slice Ao31 t727.length co31, .slice Ao32 t730.length co32] 30 (0, 0)) (by (with_reducible repeat (first | refine blk_drewN ?_ _ | refine blk_drew ?_ | refine blk_alloc ?_ _)); refine blk_put (cs := #[.int .i64 t726, .slice Ao31 t727.length co31, .slice none 0 0]) ?_ 2 _ rfl; refine blk_put (cs := #[.int .i64 t726, .slice none 0 0, .slice none 0 0]) ?_ 1 _ rfl; refine blk_put (cs := #[.int .i64 0, .slice none 0 0, .slice none 0 0]) ?_ 0 _ rfl; exact qK BK733.out) hb); have n11_ := Aside0.mk (below_step (qB) hb); clear HO713; clear HO716; clear HO720; clear HO723; clear HO729; clear HO732; clear BK708; clear BK725; clear BK733; clear HB; have HO713 := n0_; have HO716 := n1_; have HO720 := n2_; have HO723 := n3_; have HO729 := n4_; have HO732 := n5_; have HO737 := n6_; have HO740 := n7_; have BK708 := n8_; have BK725 := n9_; have BK733 := n10_; have HB := n11_; clear n0_ n1_ n2_ n3_ n4_ n5_ n6_ n7_ n8_ n9_ n10_ n11_; (try clear hb); (try clear hb2); (try clear hk); (try clear hi); (try clear ho0); (try clear ho1)) | ((with_reducible refine gate_dst (N := 7) rfl ?_); refine box_event ?hg (N := 7) ?hd (cs := #[.int .i64 0, .slice none 0 0, .slice none 0 0]) (t := 30) ?hr ?_; (case hd => rfl); (case hg => rfl); (case hr => first | (go_simp; done) | (go_simp; rfl)); intro gb742 hg w34 hbox hb; have n0_ := Aside0.mk (Kd.R_below (qR HO713.out) hb); have n1_ := Aside0.mk (Kd.R_below (qR HO716.out) hb); have n2_ := Aside0.mk (Kd.R_below (qR HO720.out) hb); have n3_ := Aside0.mk (Kd.R_below (qR HO723.out) hb); have n4_ := Aside0.mk (Kd.R_below (qR HO729.out) hb); have n5_ := Aside0.mk (Kd.R_below (qR HO732.out) hb); have n6_ := Aside0.mk (Kd.R_below (qR HO737.out) hb); have n7_ := Aside0.mk (Kd.R_below (qR HO740.out) hb); have n8_ := Aside0.mk (blk_below (g := gb708) (o := .cells #[.int .i64 a0_0, .slice A0_1 l0_1.length c0_1, .slice A0_2 l0_2.length c0_2] 25 (0, 0)) (qK BK708.out) hb); have n9_ := Aside0.mk (blk_below (g := gb725) (o := .cells #[.int .i64 t717, .slice Ao23 t718.length co23, .slice Ao24 t721.length co24] 30 (0, 0)) (qK BK725.out) hb); have n10_ := Aside0.mk (blk_below (g := gb733) (o := .cells #[.int .i64 t726, .slice Ao31 t727.length co31, .slice Ao32 t730.length co32] 30 (0, 0)) (qK BK733.out) hb); have n11_ := Aside0.mk (below_step (qB) hb); have n12_ := Aside0.mk (hbox); have n13_ := Aside0.mk ((by rw [hg]; exact (below_size (qB)) : w.heap.size ≤ gb742)); have n14_ := Aside0.mk ((by rw [hg]; exact (below_size (qB)) : w.heap.size ≤ gb742)); have n15_ := Aside0.mk ((by rw [hg]; exact Nat.ne_of_lt (blk_lt (g := gb708) (o := .cells #[.int .i64 a0_0, .slice A0_1 l0_1.length c0_1, .slice A0_2 l0_2.length c0_2] 25 (0, 0)) (qK BK708.out)) : gb708 ≠ gb742)); have n16_ := Aside0.mk ((by rw [hg]; exact Nat.ne_of_gt (blk_lt (g := gb708) (o := .cells #[.int .i64 a0_0, .slice A0_1 l0_1.length c0_1, .slice A0_2 l0_2.length c0_2] 25 (0, 0)) (qK BK708.out)) : gb742 ≠ gb708)); have n17_ := Aside0.mk ((by rw [hg]; exact Nat.ne_of_lt (blk_lt (g := gb725) (o := .cells #[.int .i64 t717, .slice Ao23 t718.length co23, .slice Ao24 t721.length co24] 30 (0, 0)) (qK BK725.out)) : gb725 ≠ gb742)); have n18_ := Aside0.mk ((by rw [hg]; exact Nat.ne_of_gt (blk_lt (g := gb725) (o := .cells #[.int .i64 t717, .slice Ao23 t718.length co23, .slice Ao24 t721.length co24] 30 (0, 0)) (qK BK725.out)) : gb742 ≠ gb725)); have n19_ := Aside0.mk ((by rw [hg]; exact Nat.ne_of_lt (blk_lt (g := gb733) (o := .cells #[.int .i64 t726, .slice Ao31 t727.length co31, .slice Ao32 t730.length co32] 30 (0, 0)) (qK BK733.out)) : gb733 ≠ gb742)); have n20_ := Aside0.mk ((by rw [hg]; exact Nat.ne_of_gt (blk_lt (g := gb733) (o := .cells #[.int .i64 t726, .slice Ao31 t727.length co31, .slice Ao32 t730.length co32] 30 (0, 0)) (qK BK733.out)) : gb742 ≠ gb733)); clear HO713; clear HO716; clear HO720; clear HO723; clear HO729; clear HO732; clear HO737; clear HO740; clear BK708; clear BK725; clear BK733; clear HB; have HO713 := n0_; have HO716 := n1_; have HO720 := n2_; have HO723 := n3_; have HO729 := n4_; have HO732 := n5_; have HO737 := n6_; have HO740 := n7_; have BK708 := n8_; have BK725 := n9_; have BK733 := n10_; have HB := n11_; have BK742 := n12_; have GW742 := n13_; have GE742 := n14_; have NB708_742 := n15_; have NB742_708 := n16_; have NB725_742 := n17_; have NB742_725 := n18_; have NB733_742 := n19_; have NB742_733 := n20_; clear n0_ n1_ n2_ n3_ n4_ n5_ n6_ n7_ n8_ n9_ n10_ n11_ n12_ n13_ n14_ n15_ n16_ n17_ n18_ n19_ n20_; clear hb hbox hg; have hnb35 := NB742_708.out; have hnc35 := NB708_742.out; have hnb36 := NB742_725.out; have hnc36 := NB725_742.out; have hnb37 := NB742_733.out; have hnc37 := NB733_742.out; have hcz38_0 : w34.cell? ⟨gb742, 0, none⟩ = some (.int .i64 0) := (blk_cell BK742.out 0).trans rfl; have hcz38_1 : w34.cell? ⟨gb742, 1, none⟩ = some (.slice none 0 0) := (blk_cell BK742.out 1).trans rfl; have hcz38_2 : w34.cell? ⟨gb742, 2, none⟩ = some (.slice none 0 0) := (blk_cell BK742.out 2).trans rfl; have hfz38_0 := blk_frozen BK742.out 0; have hfz38_1 := blk_frozen BK742.out 1; have hfz38_2 := blk_frozen BK742.out 2; obtain ⟨Ao39, co39, eo39⟩ := Kd.R_slice HO737.out; subst eo39; obtain ⟨Ao40, co40, eo40⟩ := Kd.R_slice HO740.out; subst eo40))
  (try simp only [Act.put, List.setIfInBounds_toArray, List.set_cons_zero, List.set_cons_succ])
  go_cut [40] (fun v40 wc => ∃ (kq : Nat) (x40_10 : Bool), v40 = .bool x40_10 ∧ Aside0 (laws_FnExactPruneCircuit.j0 kq t724 t741 x40_10 a0_0 l0_1 l0_2 t717 t718 t721 t726 t727 t730 t734 t735 t738 = some true) ∧ Aside0 (kq ≤ k) ∧ Aside0 (Kd.R k59 59 wc w.heap.size (fun k_ => some k_ ≠ ((.slice Ao31 t727.length co31) : Value).ownBlock ∧ some k_ ≠ ((.slice Ao39 t735.length co39) : Value).ownBlock) (.slice Ao23 t718.length co23) t718) ∧ Aside0 (Kd.R (Kd.int .i64) 3 wc w.heap.size (fun k_ => some k_ ≠ ((.slice Ao32 t730.length co32) : Value).ownBlock ∧ some k_ ≠ ((.slice Ao40 t738.length co40) : Value).ownBlock) (.slice Ao24 t721.length co24) t721) ∧ Aside0 (Kd.R k59 59 wc w.heap.size (fun k_ => some k_ ≠ ((.slice Ao23 t718.length co23) : Value).ownBlock ∧ some k_ ≠ ((.slice Ao39 t735.length co39) : Value).ownBlock) (.slice Ao31 t727.length co31) t727) ∧ Aside0 (Kd.R (Kd.int .i64) 3 wc w.heap.size (fun k_ => some k_ ≠ ((.slice Ao24 t721.length co24) : Value).ownBlock ∧ some k_ ≠ ((.slice Ao40 t738.length co40) : Value).ownBlock) (.slice Ao32 t730.length co32) t730) ∧ Aside0 (Kd.R k59 59 wc w.heap.size (fun k_ => some k_ ≠ ((.slice Ao23 t718.length co23) : Value).ownBlock ∧ some k_ ≠ ((.slice Ao31 t727.length co31) : Value).ownBlock) (.slice Ao39 t735.length co39) t735) ∧ Aside0 (Kd.R (Kd.int .i64) 3 wc w.heap.size (fun k_ => some k_ ≠ ((.slice Ao24 t721.length co24) : Value).ownBlock ∧ some k_ ≠ ((.slice Ao32 t730.length co32) : Value).ownBlock) (.slice Ao40 t738.length co40) t738) ∧ Aside0 (wc.heap[gb708]? = some (.cells #[.int .i64 a0_0, (.slice A0_1 l0_1.length c0_1), (.slice A0_2 l0_2.length c0_2)] 25 (0, 0))) ∧ Aside0 (wc.heap[gb725]? = some (.cells #[.int .i64 t717, (.slice Ao23 t718.length co23), (.slice Ao24 t721.length co24)] 30 (0, 0))) ∧ Aside0 (wc.heap[gb733]? = some (.cells #[.int .i64 t726, (.slice Ao31 t727.length co31), (.slice Ao32 t730.length co32)] 30 (0, 0))) ∧ Aside0 (wc.heap[gb742]? = some (.cells #[.int .i64 t734, (.slice Ao39 t735.length co39), (.slice Ao40 t738.length co40)] 30 (0, 0))) ∧ Aside0 (Below w.heap.size w wc))
  case first =>
   have H := HC11.out
   clear HC11
   replace H := Option.bind_eq_some_iff.mp H
   obtain ⟨t743, A410, H⟩ := H
   replace H : (if t743 = true then (laws_FnExactPruneCircuit.j0 k t724 t741 (t741 != t724) a0_0 l0_1 l0_2 t717 t718 t721 t726 t727 t730 t734 t735 t738) else (laws_FnExactPruneCircuit.j0 k t724 t741 true a0_0 l0_1 l0_2 t717 t718 t721 t726 t727 t730 t734 t735 t738)) = some true := H
   have A41 := Aside0.mk A410
   clear A410
   by_cases c42 : t743 = true
   ·subst c42
    have H1 : (laws_FnExactPruneCircuit.j0 k t724 t741 (t741 != t724) a0_0 l0_1 l0_2 t717 t718 t721 t726 t727 t730 t734 t735 t738) = some true := by rw [if_pos rfl] at H; exact H
    clear H
    have H := H1
    clear H1
    have H' := Aside0.mk H
    clear H
    have hnb43 := NB742_708.out
    have hnc43 := NB708_742.out
    have hnb44 := NB742_725.out
    have hnc44 := NB725_742.out
    have hnb45 := NB742_733.out
    have hnc45 := NB733_742.out
    have hcz46_0 : w34.cell? ⟨gb742, 0, none⟩ = some (.int .i64 0) := (blk_cell BK742.out 0).trans rfl
    have hcz46_1 : w34.cell? ⟨gb742, 1, none⟩ = some (.slice none 0 0) := (blk_cell BK742.out 1).trans rfl
    have hcz46_2 : w34.cell? ⟨gb742, 2, none⟩ = some (.slice none 0 0) := (blk_cell BK742.out 2).trans rfl
    have hfz46_0 := blk_frozen BK742.out 0
    have hfz46_1 := blk_frozen BK742.out 1
    have hfz46_2 := blk_frozen BK742.out 2
    have hnb47 := NB725_708.out
    have hnc47 := NB708_725.out
    have hnb48 := NB725_733.out
    have hnc48 := NB733_725.out
    have hcz49_0 : w34.cell? ⟨gb725, 0, none⟩ = some (.int .i64 t717) := (blk_cell BK725.out 0).trans rfl
    have hcz49_1 : w34.cell? ⟨gb725, 1, none⟩ = some (.slice Ao23 t718.length co23) := (blk_cell BK725.out 1).trans rfl
    have hcz49_2 : w34.cell? ⟨gb725, 2, none⟩ = some (.slice Ao24 t721.length co24) := (blk_cell BK725.out 2).trans rfl
    have hfz49_0 := blk_frozen BK725.out 0
    have hfz49_1 := blk_frozen BK725.out 1
    have hfz49_2 := blk_frozen BK725.out 2
    go_wp2_with (first | ((with_reducible refine gate_callee (f := 15) rfl ?_); refine goesL_ (some 34) rfl rfl Try.func15 (by kernel_rfl) rfl #[.agg #[.int .i64 t734, .slice Ao39 t735.length co39, .slice Ao40 t738.length co40], .agg #[.int .i64 t717, .slice Ao23 t718.length co23, .slice Ao24 t721.length co24]] rfl qG ?_; (with_reducible refine (laws_eqCircuit.calls k t734 _ _ t735 _ _ t738 t717 _ _ t718 _ _ t721 true _ ?side1 ?side2 ?side3 ?side4 ?side5 ?side6 ?side7 ?side8 A41.out).mono ?_); (case side1 => refine (Kd.R_reads' (e := 59) (base := w.heap.size) (ok := fun k_ => (((True ∧ some k_ ≠ (.slice Ao17 t711.length co17 : Value).ownBlock) ∧ some k_ ≠ (.slice Ao23 t718.length co23 : Value).ownBlock) ∧ some k_ ≠ (.slice Ao31 t727.length co31 : Value).ownBlock)) (n := t735.length) (c := co39) ?_).2.2; exact (by (with_reducible repeat (first | apply Kd.R_alloc | apply Kd.R_drewN | apply Kd.R_drew)); exact (Kd.R_mono (Kd.R_far (p := ⟨gb742, 2, none⟩) (Kd.R_far (p := ⟨gb742, 1, none⟩) (Kd.R_far (p := ⟨gb742, 0, none⟩) (Kd.R_types HO737.out BK742.out (by decide)) (fun _ hk => hk.2) (.int .i64 t734)) (fun _ hk => hk.2) (.slice Ao39 t735.length co39)) (fun _ hk => hk.2) (.slice Ao40 t738.length co40)) (fun _ h_ => h_.1)))); (case side2 => exact (Kd.R_reads' HO737.out).2.1); (case side3 => refine (Kd.R_reads' (e := 3) (base := w.heap.size) (ok := fun k_ => (((True ∧ some k_ ≠ (.slice Ao18 t714.length co18 : Value).ownBlock) ∧ some k_ ≠ (.slice Ao24 t721.length co24 : Value).ownBlock) ∧ some k_ ≠ (.slice Ao32 t730.length co32 : Value).ownBlock)) (n := t738.length) (c := co40) ?_).2.2; exact (by (with_reducible repeat (first | apply Kd.R_alloc | apply Kd.R_drewN | apply Kd.R_drew)); exact (Kd.R_mono (Kd.R_far (p := ⟨gb742, 2, none⟩) (Kd.R_far (p := ⟨gb742, 1, none⟩) (Kd.R_far (p := ⟨gb742, 0, none⟩) (Kd.R_types HO740.out BK742.out (by decide)) (fun _ hk => hk.2) (.int .i64 t734)) (fun _ hk => hk.2) (.slice Ao39 t735.length co39)) (fun _ hk => hk.2) (.slice Ao40 t738.length co40)) (fun _ h_ => h_.1)))); (case side4 => exact (Kd.R_reads' HO740.out).2.1); (case side5 => refine (Kd.R_reads' (e := 59) (base := w.heap.size) (ok := fun k_ => (((True ∧ some k_ ≠ (.slice Ao17 t711.length co17 : Value).ownBlock) ∧ some k_ ≠ (.slice Ao31 t727.length co31 : Value).ownBlock) ∧ some k_ ≠ (.slice Ao39 t735.length co39 : Value).ownBlock)) (n := t718.length) (c := co23) ?_).2.2; exact (by (with_reducible repeat (first | apply Kd.R_alloc | apply Kd.R_drewN | apply Kd.R_drew)); exact (Kd.R_mono (Kd.R_far (p := ⟨gb742, 2, none⟩) (Kd.R_far (p := ⟨gb742, 1, none⟩) (Kd.R_far (p := ⟨gb742, 0, none⟩) (Kd.R_types HO720.out BK742.out (by decide)) (fun _ hk => hk.2) (.int .i64 t734)) (fun _ hk => hk.2) (.slice Ao39 t735.length co39)) (fun _ hk => hk.2) (.slice Ao40 t738.length co40)) (fun _ h_ => h_.1)))); (case side6 => exact (Kd.R_reads' HO720.out).2.1); (case side7 => refine (Kd.R_reads' (e := 3) (base := w.heap.size) (ok := fun k_ => (((True ∧ some k_ ≠ (.slice Ao18 t714.length co18 : Value).ownBlock) ∧ some k_ ≠ (.slice Ao32 t730.length co32 : Value).ownBlock) ∧ some k_ ≠ (.slice Ao40 t738.length co40 : Value).ownBlock)) (n := t721.length) (c := co24) ?_).2.2; exact (by (with_reducible repeat (first | apply Kd.R_alloc | apply Kd.R_drewN | apply Kd.R_drew)); exact (Kd.R_mono (Kd.R_far (p := ⟨gb742, 2, none⟩) (Kd.R_far (p := ⟨gb742, 1, none⟩) (Kd.R_far (p := ⟨gb742, 0, none⟩) (Kd.R_types HO723.out BK742.out (by decide)) (fun _ hk => hk.2) (.int .i64 t734)) (fun _ hk => hk.2) (.slice Ao39 t735.length co39)) (fun _ hk => hk.2) (.slice Ao40 t738.length co40)) (fun _ h_ => h_.1)))); (case side8 => exact (Kd.R_reads' HO723.out).2.1); rintro e w50 ⟨rfl, hb⟩; refine ⟨_, rfl, ?_⟩; have n0_ := Aside0.mk (Kd.R_below (by (with_reducible repeat (first | apply Kd.R_alloc | apply Kd.R_drewN | apply Kd.R_drew)); exact (Kd.R_mono (Kd.R_far (p := ⟨gb742, 2, none⟩) (Kd.R_far (p := ⟨gb742, 1, none⟩) (Kd.R_far (p := ⟨gb742, 0, none⟩) (Kd.R_types HO713.out BK742.out (by decide)) (fun _ hk => hk.2) (.int .i64 t734)) (fun _ hk => hk.2) (.slice Ao39 t735.length co39)) (fun _ hk => hk.2) (.slice Ao40 t738.length co40)) (fun _ h_ => h_.1))) hb); have n1_ := Aside0.mk (Kd.R_below (by (with_reducible repeat (first | apply Kd.R_alloc | apply Kd.R_drewN | apply Kd.R_drew)); exact (Kd.R_mono (Kd.R_far (p := ⟨gb742, 2, none⟩) (Kd.R_far (p := ⟨gb742, 1, none⟩) (Kd.R_far (p := ⟨gb742, 0, none⟩) (Kd.R_types HO716.out BK742.out (by decide)) (fun _ hk => hk.2) (.int .i64 t734)) (fun _ hk => hk.2) (.slice Ao39 t735.length co39)) (fun _ hk => hk.2) (.slice Ao40 t738.length co40)) (fun _ h_ => h_.1))) hb); have n2_ := Aside0.mk (Kd.R_below (by (with_reducible repeat (first | apply Kd.R_alloc | apply Kd.R_drewN | apply Kd.R_drew)); exact (Kd.R_mono (Kd.R_far (p := ⟨gb742, 2, none⟩) (Kd.R_far (p := ⟨gb742, 1, none⟩) (Kd.R_far (p := ⟨gb742, 0, none⟩) (Kd.R_types HO720.out BK742.out (by decide)) (fun _ hk => hk.2) (.int .i64 t734)) (fun _ hk => hk.2) (.slice Ao39 t735.length co39)) (fun _ hk => hk.2) (.slice Ao40 t738.length co40)) (fun _ h_ => h_.1))) hb); have n3_ := Aside0.mk (Kd.R_below (by (with_reducible repeat (first | apply Kd.R_alloc | apply Kd.R_drewN | apply Kd.R_drew)); exact (Kd.R_mono (Kd.R_far (p := ⟨gb742, 2, none⟩) (Kd.R_far (p := ⟨gb742, 1, none⟩) (Kd.R_far (p := ⟨gb742, 0, none⟩) (Kd.R_types HO723.out BK742.out (by decide)) (fun _ hk => hk.2) (.int .i64 t734)) (fun _ hk => hk.2) (.slice Ao39 t735.length co39)) (fun _ hk => hk.2) (.slice Ao40 t738.length co40)) (fun _ h_ => h_.1))) hb); have n4_ := Aside0.mk (Kd.R_below (by (with_reducible repeat (first | apply Kd.R_alloc | apply Kd.R_drewN | apply Kd.R_drew)); exact (Kd.R_mono (Kd.R_far (p := ⟨gb742, 2, none⟩) (Kd.R_far (p := ⟨gb742, 1, none⟩) (Kd.R_far (p := ⟨gb742, 0, none⟩) (Kd.R_types HO729.out BK742.out (by decide)) (fun _ hk => hk.2) (.int .i64 t734)) (fun _ hk => hk.2) (.slice Ao39 t735.length co39)) (fun _ hk => hk.2) (.slice Ao40 t738.length co40)) (fun _ h_ => h_.1))) hb); have n5_ := Aside0.mk (Kd.R_below (by (with_reducible repeat (first | apply Kd.R_alloc | apply Kd.R_drewN | apply Kd.R_drew)); exact (Kd.R_mono (Kd.R_far (p := ⟨gb742, 2, none⟩) (Kd.R_far (p := ⟨gb742, 1, none⟩) (Kd.R_far (p := ⟨gb742, 0, none⟩) (Kd.R_types HO732.out BK742.out (by decide)) (fun _ hk => hk.2) (.int .i64 t734)) (fun _ hk => hk.2) (.slice Ao39 t735.length co39)) (fun _ hk => hk.2) (.slice Ao40 t738.length co40)) (fun _ h_ => h_.1))) hb); have n6_ := Aside0.mk (Kd.R_below (by (with_reducible repeat (first | apply Kd.R_alloc | apply Kd.R_drewN | apply Kd.R_drew)); exact (Kd.R_mono (Kd.R_far (p := ⟨gb742, 2, none⟩) (Kd.R_far (p := ⟨gb742, 1, none⟩) (Kd.R_far (p := ⟨gb742, 0, none⟩) (Kd.R_types HO737.out BK742.out (by decide)) (fun _ hk => hk.2) (.int .i64 t734)) (fun _ hk => hk.2) (.slice Ao39 t735.length co39)) (fun _ hk => hk.2) (.slice Ao40 t738.length co40)) (fun _ h_ => h_.1))) hb); have n7_ := Aside0.mk (Kd.R_below (by (with_reducible repeat (first | apply Kd.R_alloc | apply Kd.R_drewN | apply Kd.R_drew)); exact (Kd.R_mono (Kd.R_far (p := ⟨gb742, 2, none⟩) (Kd.R_far (p := ⟨gb742, 1, none⟩) (Kd.R_far (p := ⟨gb742, 0, none⟩) (Kd.R_types HO740.out BK742.out (by decide)) (fun _ hk => hk.2) (.int .i64 t734)) (fun _ hk => hk.2) (.slice Ao39 t735.length co39)) (fun _ hk => hk.2) (.slice Ao40 t738.length co40)) (fun _ h_ => h_.1))) hb); have n8_ := Aside0.mk (blk_below (g := gb708) (o := .cells #[.int .i64 a0_0, .slice A0_1 l0_1.length c0_1, .slice A0_2 l0_2.length c0_2] 25 (0, 0)) (qF BK708.out) hb); have n9_ := Aside0.mk (blk_below (g := gb725) (o := .cells #[.int .i64 t717, .slice Ao23 t718.length co23, .slice Ao24 t721.length co24] 30 (0, 0)) (qF BK725.out) hb); have n10_ := Aside0.mk (blk_below (g := gb733) (o := .cells #[.int .i64 t726, .slice Ao31 t727.length co31, .slice Ao32 t730.length co32] 30 (0, 0)) (qF BK733.out) hb); have n11_ := Aside0.mk (blk_below (g := gb742) (o := .cells #[.int .i64 t734, .slice Ao39 t735.length co39, .slice Ao40 t738.length co40] 30 (0, 0)) (by (with_reducible repeat (first | refine blk_drewN ?_ _ | refine blk_drew ?_ | refine blk_alloc ?_ _)); refine blk_put (cs := #[.int .i64 t734, .slice Ao39 t735.length co39, .slice none 0 0]) ?_ 2 _ rfl; refine blk_put (cs := #[.int .i64 t734, .slice none 0 0, .slice none 0 0]) ?_ 1 _ rfl; refine blk_put (cs := #[.int .i64 0, .slice none 0 0, .slice none 0 0]) ?_ 0 _ rfl; exact qK BK742.out) hb); have n12_ := Aside0.mk (below_step (qB) hb); clear HO713; clear HO716; clear HO720; clear HO723; clear HO729; clear HO732; clear HO737; clear HO740; clear BK708; clear BK725; clear BK733; clear BK742; clear HB; have HO713 := n0_; have HO716 := n1_; have HO720 := n2_; have HO723 := n3_; have HO729 := n4_; have HO732 := n5_; have HO737 := n6_; have HO740 := n7_; have BK708 := n8_; have BK725 := n9_; have BK733 := n10_; have BK742 := n11_; have HB := n12_; clear n0_ n1_ n2_ n3_ n4_ n5_ n6_ n7_ n8_ n9_ n10_ n11_ n12_; (try clear hb); (try clear hb2); (try clear hk); (try clear hi)))
    go_meet
    case rel => exact ⟨_, ((t741 != t724)), qS, H', ⟨by first | omega | exact Nat.le_refl _⟩, ⟨by (with_reducible repeat (first | apply Kd.R_alloc | apply Kd.R_drewN | apply Kd.R_drew)); exact Kd.R_mono HO720.out (fun _ hk => ⟨hk.1.2, hk.2⟩)⟩, ⟨by (with_reducible repeat (first | apply Kd.R_alloc | apply Kd.R_drewN | apply Kd.R_drew)); exact Kd.R_mono HO723.out (fun _ hk => ⟨hk.1.2, hk.2⟩)⟩, ⟨by (with_reducible repeat (first | apply Kd.R_alloc | apply Kd.R_drewN | apply Kd.R_drew)); exact Kd.R_mono HO729.out (fun _ hk => ⟨hk.1.2, hk.2⟩)⟩, ⟨by (with_reducible repeat (first | apply Kd.R_alloc | apply Kd.R_drewN | apply Kd.R_drew)); exact Kd.R_mono HO732.out (fun _ hk => ⟨hk.1.2, hk.2⟩)⟩, ⟨by (with_reducible repeat (first | apply Kd.R_alloc | apply Kd.R_drewN | apply Kd.R_drew)); exact Kd.R_mono HO737.out (fun _ hk => ⟨hk.1.2, hk.2⟩)⟩, ⟨by (with_reducible repeat (first | apply Kd.R_alloc | apply Kd.R_drewN | apply Kd.R_drew)); exact Kd.R_mono HO740.out (fun _ hk => ⟨hk.1.2, hk.2⟩)⟩, ⟨by exact qK BK708.out⟩, ⟨by exact qK BK725.out⟩, ⟨by exact qK BK733.out⟩, ⟨by exact qK BK742.out⟩, ⟨qB⟩⟩
   ·replace c42 := Bool.eq_false_iff.mpr c42
    subst c42
    have H1 : (laws_FnExactPruneCircuit.j0 k t724 t741 true a0_0 l0_1 l0_2 t717 t718 t721 t726 t727 t730 t734 t735 t738) = some true := by rw [if_neg (show ¬ (false = true) by decide)] at H; exact H
    exact absurd H1 (by cases k <;> simp [laws_FnExactPruneCircuit.j0])
  case rest =>
   clear HC11
   try clear c1
   try clear c2
   try clear p2
   try clear c3
   try clear c3b0
   try clear c4
   try clear c5
   try clear c7
   try clear c11
   try clear c13
   try clear c15
   try clear c21
   try clear c28
   try clear c29
   try clear c30
   try clear c31
   try clear c35
   try clear c36
   try clear c37
   try clear c42
   try clear c43
   try clear c44
   try clear c45
   try clear c47
   try clear c48
   try clear c51
   try clear c52
   try clear c53
   try clear c55
   try clear c56
   try clear hcz13_0
   try clear hcz13_1
   try clear hcz13_2
   try clear hcz15_0
   try clear hcz15_1
   try clear hcz15_2
   try clear hcz22_0
   try clear hcz22_1
   try clear hcz22_2
   try clear hcz25_0
   try clear hcz25_1
   try clear hcz25_2
   try clear hcz30_0
   try clear hcz30_1
   try clear hcz30_2
   try clear hcz38_0
   try clear hcz38_1
   try clear hcz38_2
   try clear hcz46_0
   try clear hcz46_1
   try clear hcz46_2
   try clear hcz49_0
   try clear hcz49_1
   try clear hcz49_2
   try clear hcz54_0
   try clear hcz54_1
   try clear hcz54_2
   try clear hcz57_0
   try clear hcz57_1
   try clear hcz57_2
   try clear hcz5_0
   try clear hcz5_1
   try clear hcz5_2
   try clear hfz13_0
   try clear hfz13_1
   try clear hfz13_2
   try clear hfz15_0
   try clear hfz15_1
   try clear hfz15_2
   try clear hfz22_0
   try clear hfz22_1
   try clear hfz22_2
   try clear hfz25_0
   try clear hfz25_1
   try clear hfz25_2
   try clear hfz30_0
   try clear hfz30_1
   try clear hfz30_2
   try clear hfz38_0
   try clear hfz38_1
   try clear hfz38_2
   try clear hfz46_0
   try clear hfz46_1
   try clear hfz46_2
   try clear hfz49_0
   try clear hfz49_1
   try clear hfz49_2
   try clear hfz54_0
   try clear hfz54_1
   try clear hfz54_2
   try clear hfz57_0
   try clear hfz57_1
   try clear hfz57_2
   try clear hfz5_0
   try clear hfz5_1
   try clear hfz5_2
   obtain ⟨kq, x40_10, rfl, HA, HJ10, HO_726001, HO_726002, HO_734001, HO_734002, HO_743001, HO_743002, BK708, BK725, BK733, BK742, HB⟩ := hcut
   cases kq with
   | zero => exact absurd HA.out (by simp [laws_FnExactPruneCircuit.j0])
   | succ kj10 =>
    have H := HA.out
    clear HA
    simp only [laws_FnExactPruneCircuit.j0] at H
    by_cases c59 : x40_10 = true
    ·subst c59
     have H1 : (some false) = some true := by rw [if_pos rfl] at H; exact H
     exact absurd H1 (by simp)
    ·replace c59 := Bool.eq_false_iff.mpr c59
     subst c59
     have H1 : ((laws_toCircuit.f kj10 a0_0 l0_1 l0_2).bind fun bt744 => ((laws_eqCircuit.f kj10 t726 t727 t730 bt744.1 bt744.2.1 bt744.2.2).bind fun t751 => (if t751 = true then ((laws_markCircuit.f kj10 t726 t727 t730 1).bind fun bt752 => (if bt752.1 < 0 then (laws_FnExactPruneCircuit.j1 kj10 t724 true a0_0 l0_1 l0_2 t717 t718 t721 t734 t735 t738) else ((laws_eqCircuit.f kj10 t734 t735 t738 t717 t718 t721).bind fun t755 => (if t755 = true then (laws_FnExactPruneCircuit.j1 kj10 t724 (t741 != t724) a0_0 l0_1 l0_2 t717 t718 t721 t734 t735 t738) else (laws_FnExactPruneCircuit.j1 kj10 t724 true a0_0 l0_1 l0_2 t717 t718 t721 t734 t735 t738))))) else (some false)))) = some true := by rw [if_neg (show ¬ (false = true) by decide)] at H; exact H
     clear H
     have H := H1
     clear H1
     replace H := Option.bind_eq_some_iff.mp H
     obtain ⟨⟨t744, t745, t748⟩, A600, H⟩ := H
     replace H : ((laws_eqCircuit.f kj10 t726 t727 t730 t744 t745 t748).bind fun t751 => (if t751 = true then ((laws_markCircuit.f kj10 t726 t727 t730 1).bind fun bt752 => (if bt752.1 < 0 then (laws_FnExactPruneCircuit.j1 kj10 t724 true a0_0 l0_1 l0_2 t717 t718 t721 t734 t735 t738) else ((laws_eqCircuit.f kj10 t734 t735 t738 t717 t718 t721).bind fun t755 => (if t755 = true then (laws_FnExactPruneCircuit.j1 kj10 t724 (t741 != t724) a0_0 l0_1 l0_2 t717 t718 t721 t734 t735 t738) else (laws_FnExactPruneCircuit.j1 kj10 t724 true a0_0 l0_1 l0_2 t717 t718 t721 t734 t735 t738))))) else (some false))) = some true := H
     have A60 := Aside0.mk A600
     clear A600
     replace H := Option.bind_eq_some_iff.mp H
     obtain ⟨t751, A610, H⟩ := H
     replace H : (if t751 = true then ((laws_markCircuit.f kj10 t726 t727 t730 1).bind fun bt752 => (if bt752.1 < 0 then (laws_FnExactPruneCircuit.j1 kj10 t724 true a0_0 l0_1 l0_2 t717 t718 t721 t734 t735 t738) else ((laws_eqCircuit.f kj10 t734 t735 t738 t717 t718 t721).bind fun t755 => (if t755 = true then (laws_FnExactPruneCircuit.j1 kj10 t724 (t741 != t724) a0_0 l0_1 l0_2 t717 t718 t721 t734 t735 t738) else (laws_FnExactPruneCircuit.j1 kj10 t724 true a0_0 l0_1 l0_2 t717 t718 t721 t734 t735 t738))))) else (some false)) = some true := H
     have A61 := Aside0.mk A610
     clear A610
     by_cases c62 : t751 = true
     ·subst c62
      have H1 : ((laws_markCircuit.f kj10 t726 t727 t730 1).bind fun bt752 => (if bt752.1 < 0 then (laws_FnExactPruneCircuit.j1 kj10 t724 true a0_0 l0_1 l0_2 t717 t718 t721 t734 t735 t738) else ((laws_eqCircuit.f kj10 t734 t735 t738 t717 t718 t721).bind fun t755 => (if t755 = true then (laws_FnExactPruneCircuit.j1 kj10 t724 (t741 != t724) a0_0 l0_1 l0_2 t717 t718 t721 t734 t735 t738) else (laws_FnExactPruneCircuit.j1 kj10 t724 true a0_0 l0_1 l0_2 t717 t718 t721 t734 t735 t738))))) = some true := by rw [if_pos rfl] at H; exact H
      clear H
      have H := H1
      clear H1
      replace H := Option.bind_eq_some_iff.mp H
      obtain ⟨⟨t752, t753, t754⟩, A630, H⟩ := H
      replace H : (if t752 < 0 then (laws_FnExactPruneCircuit.j1 kj10 t724 true a0_0 l0_1 l0_2 t717 t718 t721 t734 t735 t738) else ((laws_eqCircuit.f kj10 t734 t735 t738 t717 t718 t721).bind fun t755 => (if t755 = true then (laws_FnExactPruneCircuit.j1 kj10 t724 (t741 != t724) a0_0 l0_1 l0_2 t717 t718 t721 t734 t735 t738) else (laws_FnExactPruneCircuit.j1 kj10 t724 true a0_0 l0_1 l0_2 t717 t718 t721 t734 t735 t738)))) = some true := H
      have A63 := Aside0.mk A630
      clear A630
      have HC64 := Aside0.mk H
      clear H
      try go_wp2
      have n0_ := Aside0.mk (Kd.R_drew HO_726001.out)
      have n1_ := Aside0.mk (Kd.R_drew HO_726002.out)
      have n2_ := Aside0.mk (Kd.R_drew HO_734001.out)
      have n3_ := Aside0.mk (Kd.R_drew HO_734002.out)
      have n4_ := Aside0.mk (Kd.R_drew HO_743001.out)
      have n5_ := Aside0.mk (Kd.R_drew HO_743002.out)
      have n6_ := Aside0.mk (blk_drew BK708.out)
      have n7_ := Aside0.mk (blk_drew BK725.out)
      have n8_ := Aside0.mk (blk_drew BK733.out)
      have n9_ := Aside0.mk (blk_drew BK742.out)
      have n10_ := Aside0.mk (below_drew1 HB.out)
      clear HO_726001
      clear HO_726002
      clear HO_734001
      clear HO_734002
      clear HO_743001
      clear HO_743002
      clear BK708
      clear BK725
      clear BK733
      clear BK742
      clear HB
      have HO_726001 := n0_
      have HO_726002 := n1_
      have HO_734001 := n2_
      have HO_734002 := n3_
      have HO_743001 := n4_
      have HO_743002 := n5_
      have BK708 := n6_
      have BK725 := n7_
      have BK733 := n8_
      have BK742 := n9_
      have HB := n10_
      clear n0_ n1_ n2_ n3_ n4_ n5_ n6_ n7_ n8_ n9_ n10_
      refine start_ (n := 5) (S := fun w' => w'.cell? ⟨gb733, 0, none⟩ = some (.int .i64 t726) ∧ w'.cell? ⟨gb733, 1, none⟩ = some (.slice Ao31 t727.length co31) ∧ w'.cell? ⟨gb733, 2, none⟩ = some (.slice Ao32 t730.length co32) ∧ w'.cell? ⟨gb708, 0, none⟩ = some (.int .i64 a0_0) ∧ w'.cell? ⟨gb708, 1, none⟩ = some (.slice A0_1 l0_1.length c0_1) ∧ w'.cell? ⟨gb708, 2, none⟩ = some (.slice A0_2 l0_2.length c0_2)) (ds := []) #[false, false, false, false, false] (by kernel_rfl) rfl rfl ⟨(blk_cell BK733.out 0).trans rfl, (blk_cell BK733.out 1).trans rfl, (blk_cell BK733.out 2).trans rfl, (blk_cell BK708.out 0).trans rfl, (blk_cell BK708.out 1).trans rfl, (blk_cell BK708.out 2).trans rfl⟩ (fun hHeld => ?_)
      generalize wc.drew = w65 at HO_726001 HO_726002 HO_734001 HO_734002 HO_743001 HO_743002 BK708 BK725 BK733 BK742 HB hHeld ⊢
      refine take_ (i := 0) (N := some 41) (v := ?_) (a' := ?_) #[true, false, false, false, false] rfl rfl (by kernel_rfl) (fun _ _ _ h => h) (Or.inl ⟨by rfl, ?_⟩) hHeld ?_ ?_
      rotate_left
      ·rintro w' ⟨s0, s1, s2, s3, s4, s5⟩
       go_simp
       with_reducible rfl
      rotate_left
      ·simp only [Act.put, List.setIfInBounds_toArray, List.set_cons_zero, List.set_cons_succ, i64_w, i32_w]
       rfl
      refine take_ (i := 1) (N := some 42) (v := ?_) (a' := ?_) #[true, true, false, false, false] rfl rfl (by kernel_rfl) (fun _ _ _ h => h) (Or.inl ⟨by rfl, ?_⟩) hHeld ?_ ?_
      rotate_left
      ·rintro w' ⟨s0, s1, s2, s3, s4, s5⟩
       go_simp
       with_reducible rfl
      rotate_left
      ·simp only [Act.put, List.setIfInBounds_toArray, List.set_cons_zero, List.set_cons_succ, i64_w, i32_w]
       rfl
      refine one_ (i := 2) (N := some 43) #[true, true, true, false, false] rfl rfl (by kernel_rfl) (by decide) (fun K hK => ?_)
      refine goes_ Try.func13 (by kernel_rfl) rfl #[.agg #[.int .i64 a0_0, .slice A0_1 l0_1.length c0_1, .slice A0_2 l0_2.length c0_2]] (by rfl) rfl rfl qG ?_
      with_reducible refine (laws_toCircuit.calls kj10 a0_0 _ _ l0_1 _ _ l0_2 t744 t745 t748 _ ?side1 ?side2 ?side3 ?side4 A60.out).mono ?_
      (case side1 => exact qC (Kd.C_below HR0_1.out HB.out))
      (case side2 => exact HC0_1.out)
      (case side3 => exact qC (Kd.C_below HR0_2.out HB.out))
      (case side4 => exact HC0_2.out)
      rintro e w66 ⟨v746, v749, rfl, ho0, ho1, hb⟩
      refine ⟨_, rfl, ?_⟩
      have n0_ := Aside0.mk (Kd.R_elder' (qR HO_726001.out) (Kd.R_base ho0) hb)
      have n1_ := Aside0.mk (Kd.R_elder' (qR HO_726002.out) (Kd.R_base ho1) hb)
      have n2_ := Aside0.mk (Kd.R_elder' (qR HO_734001.out) (Kd.R_base ho0) hb)
      have n3_ := Aside0.mk (Kd.R_elder' (qR HO_734002.out) (Kd.R_base ho1) hb)
      have n4_ := Aside0.mk (Kd.R_elder' (qR HO_743001.out) (Kd.R_base ho0) hb)
      have n5_ := Aside0.mk (Kd.R_elder' (qR HO_743002.out) (Kd.R_base ho1) hb)
      have n6_ := Aside0.mk (Kd.R_lower (Kd.R_new' (Kd.R_new' (Kd.R_new' ho0 (Kd.R_lt (qR HO_726001.out))) (Kd.R_lt (qR HO_734001.out))) (Kd.R_lt (qR HO_743001.out))) (below_size (qB)))
      have n7_ := Aside0.mk (Kd.R_lower (Kd.R_new' (Kd.R_new' (Kd.R_new' ho1 (Kd.R_lt (qR HO_726002.out))) (Kd.R_lt (qR HO_734002.out))) (Kd.R_lt (qR HO_743002.out))) (below_size (qB)))
      have n8_ := Aside0.mk (blk_below (g := gb708) (o := .cells #[.int .i64 a0_0, .slice A0_1 l0_1.length c0_1, .slice A0_2 l0_2.length c0_2] 25 (0, 0)) (qK BK708.out) hb)
      have n9_ := Aside0.mk (blk_below (g := gb725) (o := .cells #[.int .i64 t717, .slice Ao23 t718.length co23, .slice Ao24 t721.length co24] 30 (0, 0)) (qK BK725.out) hb)
      have n10_ := Aside0.mk (blk_below (g := gb733) (o := .cells #[.int .i64 t726, .slice Ao31 t727.length co31, .slice Ao32 t730.length co32] 30 (0, 0)) (qK BK733.out) hb)
      have n11_ := Aside0.mk (blk_below (g := gb742) (o := .cells #[.int .i64 t734, .slice Ao39 t735.length co39, .slice Ao40 t738.length co40] 30 (0, 0)) (qK BK742.out) hb)
      have n12_ := Aside0.mk (below_step (qB) hb)
      clear HO_726001
      clear HO_726002
      clear HO_734001
      clear HO_734002
      clear HO_743001
      clear HO_743002
      clear BK708
      clear BK725
      clear BK733
      clear BK742
      clear HB
      have HO_726001 := n0_
      have HO_726002 := n1_
      have HO_734001 := n2_
      have HO_734002 := n3_
      have HO_743001 := n4_
      have HO_743002 := n5_
      have HO747 := n6_
      have HO750 := n7_
      have BK708 := n8_
      have BK725 := n9_
      have BK733 := n10_
      have BK742 := n11_
      have HB := n12_
      clear n0_ n1_ n2_ n3_ n4_ n5_ n6_ n7_ n8_ n9_ n10_ n11_ n12_
      (try clear hb)
      (try clear hb2)
      (try clear hk)
      (try clear hi)
      (try clear ho0)
      (try clear ho1)
      obtain ⟨Ao67, co67, eo67⟩ := Kd.R_slice HO747.out
      (first | subst eo67 | (injection eo67 with f1_ f2_ f3_; have f4_ := f1_.symm; have f5_ := f3_.symm; clear f1_ f2_ f3_; subst f4_; subst f5_))
      obtain ⟨Ao68, co68, eo68⟩ := Kd.R_slice HO750.out
      (first | subst eo68 | (injection eo68 with f1_ f2_ f3_; have f4_ := f1_.symm; have f5_ := f3_.symm; clear f1_ f2_ f3_; subst f4_; subst f5_))
      refine hK.out _ _ ⟨(blk_cell BK733.out 0).trans rfl, (blk_cell BK733.out 1).trans rfl, (blk_cell BK733.out 2).trans rfl, (blk_cell BK708.out 0).trans rfl, (blk_cell BK708.out 1).trans rfl, (blk_cell BK708.out 2).trans rfl⟩ (fun hHeld => ?_)
      clear hK K
      refine norm_ (a' := ?_) ?_ ?_
      rotate_left
      ·show Act.put _ (some 43) _ = _
       simp only [Act.put, List.setIfInBounds_toArray, List.set_cons_zero, List.set_cons_succ, i64_w, i32_w]
       rfl
      refine one_ (i := 3) (N := some 44) #[true, true, true, true, false] rfl rfl (by kernel_rfl) (by decide) (fun K hK => ?_)
      refine goes_ Try.func15 (by kernel_rfl) rfl #[.agg #[.int .i64 t726, .slice Ao31 t727.length co31, .slice Ao32 t730.length co32], .agg #[.int .i64 t744, .slice Ao67 t745.length co67, .slice Ao68 t748.length co68]] (by rfl) rfl rfl qG ?_
      with_reducible refine (laws_eqCircuit.calls kj10 t726 _ _ t727 _ _ t730 t744 _ _ t745 _ _ t748 true _ ?side1 ?side2 ?side3 ?side4 ?side5 ?side6 ?side7 ?side8 A61.out).mono ?_
      (case side1 => repeat (first | exact (Kd.R_reads' HO_734001.out).2.2 | (with_reducible refine Kd.C_alloc ?_ _) | (with_reducible refine Kd.C_drewN ?_ _) | (with_reducible refine Kd.C_drew ?_)))
      (case side2 => exact (Kd.R_reads' HO_734001.out).2.1)
      (case side3 => repeat (first | exact (Kd.R_reads' HO_734002.out).2.2 | (with_reducible refine Kd.C_alloc ?_ _) | (with_reducible refine Kd.C_drewN ?_ _) | (with_reducible refine Kd.C_drew ?_)))
      (case side4 => exact (Kd.R_reads' HO_734002.out).2.1)
      (case side5 => repeat (first | exact (Kd.R_reads' HO747.out).2.2 | (with_reducible refine Kd.C_alloc ?_ _) | (with_reducible refine Kd.C_drewN ?_ _) | (with_reducible refine Kd.C_drew ?_)))
      (case side6 => exact (Kd.R_reads' HO747.out).2.1)
      (case side7 => repeat (first | exact (Kd.R_reads' HO750.out).2.2 | (with_reducible refine Kd.C_alloc ?_ _) | (with_reducible refine Kd.C_drewN ?_ _) | (with_reducible refine Kd.C_drew ?_)))
      (case side8 => exact (Kd.R_reads' HO750.out).2.1)
      rintro e w69 ⟨rfl, hb⟩
      refine ⟨_, rfl, ?_⟩
      have n0_ := Aside0.mk (Kd.R_below (qR HO_726001.out) hb)
      have n1_ := Aside0.mk (Kd.R_below (qR HO_726002.out) hb)
      have n2_ := Aside0.mk (Kd.R_below (qR HO_734001.out) hb)
      have n3_ := Aside0.mk (Kd.R_below (qR HO_734002.out) hb)
      have n4_ := Aside0.mk (Kd.R_below (qR HO_743001.out) hb)
      have n5_ := Aside0.mk (Kd.R_below (qR HO_743002.out) hb)
      have n6_ := Aside0.mk (Kd.R_below (qR HO747.out) hb)
      have n7_ := Aside0.mk (Kd.R_below (qR HO750.out) hb)
      have n8_ := Aside0.mk (blk_below (g := gb708) (o := .cells #[.int .i64 a0_0, .slice A0_1 l0_1.length c0_1, .slice A0_2 l0_2.length c0_2] 25 (0, 0)) (qK BK708.out) hb)
      have n9_ := Aside0.mk (blk_below (g := gb725) (o := .cells #[.int .i64 t717, .slice Ao23 t718.length co23, .slice Ao24 t721.length co24] 30 (0, 0)) (qK BK725.out) hb)
      have n10_ := Aside0.mk (blk_below (g := gb733) (o := .cells #[.int .i64 t726, .slice Ao31 t727.length co31, .slice Ao32 t730.length co32] 30 (0, 0)) (qK BK733.out) hb)
      have n11_ := Aside0.mk (blk_below (g := gb742) (o := .cells #[.int .i64 t734, .slice Ao39 t735.length co39, .slice Ao40 t738.length co40] 30 (0, 0)) (qK BK742.out) hb)
      have n12_ := Aside0.mk (below_step (qB) hb)
      clear HO_726001
      clear HO_726002
      clear HO_734001
      clear HO_734002
      clear HO_743001
      clear HO_743002
      clear HO747
      clear HO750
      clear BK708
      clear BK725
      clear BK733
      clear BK742
      clear HB
      have HO_726001 := n0_
      have HO_726002 := n1_
      have HO_734001 := n2_
      have HO_734002 := n3_
      have HO_743001 := n4_
      have HO_743002 := n5_
      have HO747 := n6_
      have HO750 := n7_
      have BK708 := n8_
      have BK725 := n9_
      have BK733 := n10_
      have BK742 := n11_
      have HB := n12_
      clear n0_ n1_ n2_ n3_ n4_ n5_ n6_ n7_ n8_ n9_ n10_ n11_ n12_
      (try clear hb)
      (try clear hb2)
      (try clear hk)
      (try clear hi)
      refine hK.out _ _ ⟨(blk_cell BK733.out 0).trans rfl, (blk_cell BK733.out 1).trans rfl, (blk_cell BK733.out 2).trans rfl, (blk_cell BK708.out 0).trans rfl, (blk_cell BK708.out 1).trans rfl, (blk_cell BK708.out 2).trans rfl⟩ (fun hHeld => ?_)
      clear hK K
      refine norm_ (a' := ?_) ?_ ?_
      rotate_left
      ·show Act.put _ (some 44) _ = _
       simp only [Act.put, List.setIfInBounds_toArray, List.set_cons_zero, List.set_cons_succ, i64_w, i32_w]
       rfl
      refine pure_ (i := 4) (N := some 45) (v := ?_) (a' := ?_) #[true, true, true, true, true] rfl rfl (by kernel_rfl) (fun _ _ _ h => h) (Or.inl ⟨by rfl, ?_⟩) ?_ ?_
      rotate_left
      ·intro w'
       go_simp
       with_reducible rfl
      rotate_left
      ·simp only [Act.put, List.setIfInBounds_toArray, List.set_cons_zero, List.set_cons_succ, i64_w, i32_w]
       rfl
      refine done_ (by kernel_rfl) ?_
      have hnb70 := NB733_708.out
      have hnc70 := NB708_733.out
      have hnb71 := NB733_725.out
      have hnc71 := NB725_733.out
      have hnb72 := NB733_742.out
      have hnc72 := NB742_733.out
      have hcz73_0 : w69.cell? ⟨gb733, 0, none⟩ = some (.int .i64 t726) := (blk_cell BK733.out 0).trans rfl
      have hcz73_1 : w69.cell? ⟨gb733, 1, none⟩ = some (.slice Ao31 t727.length co31) := (blk_cell BK733.out 1).trans rfl
      have hcz73_2 : w69.cell? ⟨gb733, 2, none⟩ = some (.slice Ao32 t730.length co32) := (blk_cell BK733.out 2).trans rfl
      have hfz73_0 := blk_frozen BK733.out 0
      have hfz73_1 := blk_frozen BK733.out 1
      have hfz73_2 := blk_frozen BK733.out 2
      go_upto_region 14 with (first | ((with_reducible refine gate_callee (f := 20) rfl ?_); refine goesL_ (some 48) rfl rfl Try.func20 (by kernel_rfl) rfl #[.agg #[.int .i64 t726, .slice Ao31 t727.length co31, .slice Ao32 t730.length co32], .int .i64 1] rfl qG ?_; (with_reducible refine (laws_markCircuit.calls kj10 t726 (fun k_ => some k_ = (.slice Ao31 t727.length co31 : Value).ownBlock) (.slice Ao31 t727.length co31) t727 (fun k_ => some k_ = (.slice Ao32 t730.length co32 : Value).ownBlock) (.slice Ao32 t730.length co32) t730 1 t752 t753 t754 w _ ?side1 ?side2 ?side3 A63.out).mono ?_); (case side1 => repeat (first | (with_reducible first | exact HB.out | apply below_alloc | apply pw_below_drewN | apply below_drew1 | refine below_set ?_ GE708.out | refine below_set ?_ GE725.out | refine below_set ?_ GE733.out | refine below_set ?_ GE742.out) | exact HB.out)); (case side2 => exact Kd.R_tight rfl HO_734001.out); (case side3 => exact Kd.R_tight rfl HO_734002.out); rintro e w74 ⟨rfl, hy0, hy1, hb, hkp⟩; refine ⟨_, rfl, ?_⟩; have n0_ := Aside0.mk (Kd.R_mono (ok' := fun k_ => some k_ ≠ (.slice Ao31 t727.length co31 : Value).ownBlock ∧ some k_ ≠ (.slice Ao39 t735.length co39 : Value).ownBlock ∧ some k_ ≠ (.slice Ao67 t745.length co67 : Value).ownBlock) (Kd.R_keptB ((Kd.R_apart' HO_726001.out (Kd.R_typed HO_734002.out) (by decide))) hkp (fun k_ hk_ hs_ => Or.elim hs_ (fun e_ => (hk_.1.1.1) e_) (fun e_ => (hk_.2) e_))) (fun k_ hk_ => ⟨hk_.1.1.1.1, hk_.1.1.1.2, hk_.1.1.2⟩)); have n1_ := Aside0.mk (Kd.R_mono (ok' := fun k_ => some k_ ≠ (.slice Ao32 t730.length co32 : Value).ownBlock ∧ some k_ ≠ (.slice Ao40 t738.length co40 : Value).ownBlock ∧ some k_ ≠ (.slice Ao68 t748.length co68 : Value).ownBlock) (Kd.R_keptB ((Kd.R_apart' HO_726002.out (Kd.R_typed HO_734001.out) (by decide))) hkp (fun k_ hk_ hs_ => Or.elim hs_ (fun e_ => (hk_.2) e_) (fun e_ => (hk_.1.1.1) e_))) (fun k_ hk_ => ⟨hk_.1.1.1.1, hk_.1.1.1.2, hk_.1.1.2⟩)); have n2_ := Aside0.mk (Kd.R_reok rfl hy0 (fun k_ e_ => HO_734001.out.1 k_ e_)); have n3_ := Aside0.mk (Kd.R_reok rfl hy1 (fun k_ e_ => HO_734002.out.1 k_ e_)); have n4_ := Aside0.mk (Kd.R_mono (ok' := fun k_ => some k_ ≠ (.slice Ao23 t718.length co23 : Value).ownBlock ∧ some k_ ≠ (.slice Ao31 t727.length co31 : Value).ownBlock ∧ some k_ ≠ (.slice Ao67 t745.length co67 : Value).ownBlock) (Kd.R_keptB ((Kd.R_apart' HO_743001.out (Kd.R_typed HO_734002.out) (by decide))) hkp (fun k_ hk_ hs_ => Or.elim hs_ (fun e_ => (hk_.1.1.2) e_) (fun e_ => (hk_.2) e_))) (fun k_ hk_ => ⟨hk_.1.1.1.1, hk_.1.1.1.2, hk_.1.1.2⟩)); have n5_ := Aside0.mk (Kd.R_mono (ok' := fun k_ => some k_ ≠ (.slice Ao24 t721.length co24 : Value).ownBlock ∧ some k_ ≠ (.slice Ao32 t730.length co32 : Value).ownBlock ∧ some k_ ≠ (.slice Ao68 t748.length co68 : Value).ownBlock) (Kd.R_keptB ((Kd.R_apart' HO_743002.out (Kd.R_typed HO_734001.out) (by decide))) hkp (fun k_ hk_ hs_ => Or.elim hs_ (fun e_ => (hk_.2) e_) (fun e_ => (hk_.1.1.2) e_))) (fun k_ hk_ => ⟨hk_.1.1.1.1, hk_.1.1.1.2, hk_.1.1.2⟩)); have n6_ := Aside0.mk (blk_kept BK708.out hkp (fun hs_ => Or.elim hs_ (fun e_ => (fun e_ => (Kd.R_ne HO_734001.out BK708.out (by decide)) e_) e_) (fun e_ => (fun e_ => (Kd.R_ne HO_734002.out BK708.out (by decide)) e_) e_))); have n7_ := Aside0.mk (blk_kept BK725.out hkp (fun hs_ => Or.elim hs_ (fun e_ => (fun e_ => (Kd.R_ne HO_734001.out BK725.out (by decide)) e_) e_) (fun e_ => (fun e_ => (Kd.R_ne HO_734002.out BK725.out (by decide)) e_) e_))); have n8_ := Aside0.mk (blk_kept BK733.out hkp (fun hs_ => Or.elim hs_ (fun e_ => (fun e_ => (Kd.R_ne HO_734001.out BK733.out (by decide)) e_) e_) (fun e_ => (fun e_ => (Kd.R_ne HO_734002.out BK733.out (by decide)) e_) e_))); have n9_ := Aside0.mk (blk_kept BK742.out hkp (fun hs_ => Or.elim hs_ (fun e_ => (fun e_ => (Kd.R_ne HO_734001.out BK742.out (by decide)) e_) e_) (fun e_ => (fun e_ => (Kd.R_ne HO_734002.out BK742.out (by decide)) e_) e_))); have n10_ := Aside0.mk (Kd.R_mono (ok' := fun k_ => some k_ ≠ (.slice Ao23 t718.length co23 : Value).ownBlock ∧ some k_ ≠ (.slice Ao31 t727.length co31 : Value).ownBlock ∧ some k_ ≠ (.slice Ao39 t735.length co39 : Value).ownBlock) (Kd.R_keptB ((Kd.R_apart' HO747.out (Kd.R_typed HO_734002.out) (by decide))) hkp (fun k_ hk_ hs_ => Or.elim hs_ (fun e_ => (hk_.1.1.2) e_) (fun e_ => (hk_.2) e_))) (fun k_ hk_ => ⟨hk_.1.1.1.1.2, hk_.1.1.1.2, hk_.1.1.2⟩)); have n11_ := Aside0.mk (Kd.R_mono (ok' := fun k_ => some k_ ≠ (.slice Ao24 t721.length co24 : Value).ownBlock ∧ some k_ ≠ (.slice Ao32 t730.length co32 : Value).ownBlock ∧ some k_ ≠ (.slice Ao40 t738.length co40 : Value).ownBlock) (Kd.R_keptB ((Kd.R_apart' HO750.out (Kd.R_typed HO_734001.out) (by decide))) hkp (fun k_ hk_ hs_ => Or.elim hs_ (fun e_ => (hk_.2) e_) (fun e_ => (hk_.1.1.2) e_))) (fun k_ hk_ => ⟨hk_.1.1.1.1.2, hk_.1.1.1.2, hk_.1.1.2⟩)); have n12_ := Aside0.mk (hb); clear HO_726001; clear HO_726002; clear HO_734001; clear HO_734002; clear HO_743001; clear HO_743002; clear BK708; clear BK725; clear BK733; clear BK742; clear HO747; clear HO750; clear HB; have HO_726001 := n0_; have HO_726002 := n1_; have HO_734001 := n2_; have HO_734002 := n3_; have HO_743001 := n4_; have HO_743002 := n5_; have BK708 := n6_; have BK725 := n7_; have BK733 := n8_; have BK742 := n9_; have HO747 := n10_; have HO750 := n11_; have HB := n12_; clear n0_ n1_ n2_ n3_ n4_ n5_ n6_ n7_ n8_ n9_ n10_ n11_ n12_; (try clear hb); (try clear hkp); (try clear hy0); (try clear hy1)))
      (try simp only [Act.put, List.setIfInBounds_toArray, List.set_cons_zero, List.set_cons_succ])
      go_cut [61] (fun v61 wc => ∃ (kq : Nat) (x61_63 : Bool), v61 = .bool x61_63 ∧ Aside0 (laws_FnExactPruneCircuit.j1 kq t724 x61_63 a0_0 l0_1 l0_2 t717 t718 t721 t734 t735 t738 = some true) ∧ Aside0 (kq ≤ kj10) ∧ Aside0 (Kd.R k59 59 wc w.heap.size (fun k_ => some k_ ≠ ((.slice Ao31 t727.length co31) : Value).ownBlock ∧ some k_ ≠ ((.slice Ao39 t735.length co39) : Value).ownBlock) (.slice Ao23 t718.length co23) t718) ∧ Aside0 (Kd.R (Kd.int .i64) 3 wc w.heap.size (fun k_ => some k_ ≠ ((.slice Ao32 t730.length co32) : Value).ownBlock ∧ some k_ ≠ ((.slice Ao40 t738.length co40) : Value).ownBlock) (.slice Ao24 t721.length co24) t721) ∧ Aside0 (Kd.R k59 59 wc w.heap.size (fun k_ => some k_ ≠ ((.slice Ao23 t718.length co23) : Value).ownBlock ∧ some k_ ≠ ((.slice Ao39 t735.length co39) : Value).ownBlock) (.slice Ao31 t727.length co31) t753) ∧ Aside0 (Kd.R (Kd.int .i64) 3 wc w.heap.size (fun k_ => some k_ ≠ ((.slice Ao24 t721.length co24) : Value).ownBlock ∧ some k_ ≠ ((.slice Ao40 t738.length co40) : Value).ownBlock) (.slice Ao32 t730.length co32) t754) ∧ Aside0 (Kd.R k59 59 wc w.heap.size (fun k_ => some k_ ≠ ((.slice Ao23 t718.length co23) : Value).ownBlock ∧ some k_ ≠ ((.slice Ao31 t727.length co31) : Value).ownBlock) (.slice Ao39 t735.length co39) t735) ∧ Aside0 (Kd.R (Kd.int .i64) 3 wc w.heap.size (fun k_ => some k_ ≠ ((.slice Ao24 t721.length co24) : Value).ownBlock ∧ some k_ ≠ ((.slice Ao32 t730.length co32) : Value).ownBlock) (.slice Ao40 t738.length co40) t738) ∧ Aside0 (wc.heap[gb708]? = some (.cells #[.int .i64 a0_0, (.slice A0_1 l0_1.length c0_1), (.slice A0_2 l0_2.length c0_2)] 25 (0, 0))) ∧ Aside0 (wc.heap[gb725]? = some (.cells #[.int .i64 t717, (.slice Ao23 t718.length co23), (.slice Ao24 t721.length co24)] 30 (0, 0))) ∧ Aside0 (wc.heap[gb733]? = some (.cells #[.int .i64 t726, (.slice Ao31 t727.length co31), (.slice Ao32 t730.length co32)] 30 (0, 0))) ∧ Aside0 (wc.heap[gb742]? = some (.cells #[.int .i64 t734, (.slice Ao39 t735.length co39), (.slice Ao40 t738.length co40)] 30 (0, 0))) ∧ Aside0 (Below w.heap.size w wc))
      case first =>
       have H := HC64.out
       clear HC64
       by_cases c75 : t752 < 0
       ·rw [if_pos c75] at H
        exact absurd H (by cases kj10 <;> simp [laws_FnExactPruneCircuit.j1])
       ·rw [if_neg c75] at H
        have c75b0 : decide (t752 < 0) = false := decide_eq_false c75
        clear c75
        (first | rw [c75b0] | (simp only [i64_w, i32_w]; rw [c75b0]) | skip)
        replace H := Option.bind_eq_some_iff.mp H
        obtain ⟨t755, A760, H⟩ := H
        replace H : (if t755 = true then (laws_FnExactPruneCircuit.j1 kj10 t724 (t741 != t724) a0_0 l0_1 l0_2 t717 t718 t721 t734 t735 t738) else (laws_FnExactPruneCircuit.j1 kj10 t724 true a0_0 l0_1 l0_2 t717 t718 t721 t734 t735 t738)) = some true := H
        have A76 := Aside0.mk A760
        clear A760
        by_cases c77 : t755 = true
        ·subst c77
         have H1 : (laws_FnExactPruneCircuit.j1 kj10 t724 (t741 != t724) a0_0 l0_1 l0_2 t717 t718 t721 t734 t735 t738) = some true := by rw [if_pos rfl] at H; exact H
         clear H
         have H := H1
         clear H1
         have H' := Aside0.mk H
         clear H
         have hnb78 := NB742_708.out
         have hnc78 := NB708_742.out
         have hnb79 := NB742_725.out
         have hnc79 := NB725_742.out
         have hnb80 := NB742_733.out
         have hnc80 := NB733_742.out
         have hcz81_0 : w74.cell? ⟨gb742, 0, none⟩ = some (.int .i64 t734) := (blk_cell BK742.out 0).trans rfl
         have hcz81_1 : w74.cell? ⟨gb742, 1, none⟩ = some (.slice Ao39 t735.length co39) := (blk_cell BK742.out 1).trans rfl
         have hcz81_2 : w74.cell? ⟨gb742, 2, none⟩ = some (.slice Ao40 t738.length co40) := (blk_cell BK742.out 2).trans rfl
         have hfz81_0 := blk_frozen BK742.out 0
         have hfz81_1 := blk_frozen BK742.out 1
         have hfz81_2 := blk_frozen BK742.out 2
         have hnb82 := NB725_708.out
         have hnc82 := NB708_725.out
         have hnb83 := NB725_733.out
         have hnc83 := NB733_725.out
         have hcz84_0 : w74.cell? ⟨gb725, 0, none⟩ = some (.int .i64 t717) := (blk_cell BK725.out 0).trans rfl
         have hcz84_1 : w74.cell? ⟨gb725, 1, none⟩ = some (.slice Ao23 t718.length co23) := (blk_cell BK725.out 1).trans rfl
         have hcz84_2 : w74.cell? ⟨gb725, 2, none⟩ = some (.slice Ao24 t721.length co24) := (blk_cell BK725.out 2).trans rfl
         have hfz84_0 := blk_frozen BK725.out 0
         have hfz84_1 := blk_frozen BK725.out 1
         have hfz84_2 := blk_frozen BK725.out 2
         go_wp2_with (first | (go_at_call 15; (with_reducible refine (laws_eqCircuit.calls kj10 t734 _ _ t735 _ _ t738 t717 _ _ t718 _ _ t721 true _ ?side1 ?side2 ?side3 ?side4 ?side5 ?side6 ?side7 ?side8 A76.out).mono ?_); (case side1 => repeat (first | exact (Kd.R_reads' HO_743001.out).2.2 | (with_reducible refine Kd.C_alloc ?_ _) | (with_reducible refine Kd.C_drewN ?_ _) | (with_reducible refine Kd.C_drew ?_))); (case side2 => exact (Kd.R_reads' HO_743001.out).2.1); (case side3 => repeat (first | exact (Kd.R_reads' HO_743002.out).2.2 | (with_reducible refine Kd.C_alloc ?_ _) | (with_reducible refine Kd.C_drewN ?_ _) | (with_reducible refine Kd.C_drew ?_))); (case side4 => exact (Kd.R_reads' HO_743002.out).2.1); (case side5 => repeat (first | exact (Kd.R_reads' HO_726001.out).2.2 | (with_reducible refine Kd.C_alloc ?_ _) | (with_reducible refine Kd.C_drewN ?_ _) | (with_reducible refine Kd.C_drew ?_))); (case side6 => exact (Kd.R_reads' HO_726001.out).2.1); (case side7 => repeat (first | exact (Kd.R_reads' HO_726002.out).2.2 | (with_reducible refine Kd.C_alloc ?_ _) | (with_reducible refine Kd.C_drewN ?_ _) | (with_reducible refine Kd.C_drew ?_))); (case side8 => exact (Kd.R_reads' HO_726002.out).2.1); rintro e w85 ⟨rfl, hb⟩; have n0_ := Aside0.mk (Kd.R_below (qR HO_726001.out) hb); have n1_ := Aside0.mk (Kd.R_below (qR HO_726002.out) hb); have n2_ := Aside0.mk (Kd.R_below (qR HO_734001.out) hb); have n3_ := Aside0.mk (Kd.R_below (qR HO_734002.out) hb); have n4_ := Aside0.mk (Kd.R_below (qR HO_743001.out) hb); have n5_ := Aside0.mk (Kd.R_below (qR HO_743002.out) hb); have n6_ := Aside0.mk (Kd.R_below (qR HO747.out) hb); have n7_ := Aside0.mk (Kd.R_below (qR HO750.out) hb); have n8_ := Aside0.mk (blk_below (g := gb708) (o := .cells #[.int .i64 a0_0, .slice A0_1 l0_1.length c0_1, .slice A0_2 l0_2.length c0_2] 25 (0, 0)) (qK BK708.out) hb); have n9_ := Aside0.mk (blk_below (g := gb725) (o := .cells #[.int .i64 t717, .slice Ao23 t718.length co23, .slice Ao24 t721.length co24] 30 (0, 0)) (qK BK725.out) hb); have n10_ := Aside0.mk (blk_below (g := gb733) (o := .cells #[.int .i64 t726, .slice Ao31 t727.length co31, .slice Ao32 t730.length co32] 30 (0, 0)) (qK BK733.out) hb); have n11_ := Aside0.mk (blk_below (g := gb742) (o := .cells #[.int .i64 t734, .slice Ao39 t735.length co39, .slice Ao40 t738.length co40] 30 (0, 0)) (qK BK742.out) hb); have n12_ := Aside0.mk (below_step (qB) hb); clear HO_726001; clear HO_726002; clear HO_734001; clear HO_734002; clear HO_743001; clear HO_743002; clear HO747; clear HO750; clear BK708; clear BK725; clear BK733; clear BK742; clear HB; have HO_726001 := n0_; have HO_726002 := n1_; have HO_734001 := n2_; have HO_734002 := n3_; have HO_743001 := n4_; have HO_743002 := n5_; have HO747 := n6_; have HO750 := n7_; have BK708 := n8_; have BK725 := n9_; have BK733 := n10_; have BK742 := n11_; have HB := n12_; clear n0_ n1_ n2_ n3_ n4_ n5_ n6_ n7_ n8_ n9_ n10_ n11_ n12_; (try clear hb); (try clear hb2); (try clear hk); (try clear hi)))
         go_meet
         case rel => exact ⟨_, ((t741 != t724)), qS, H', ⟨by have := HJ10.out; first | omega | exact Nat.le_refl _⟩, ⟨by (with_reducible repeat (first | apply Kd.R_alloc | apply Kd.R_drewN | apply Kd.R_drew)); exact Kd.R_mono HO_726001.out (fun _ hk => ⟨hk.1, hk.2.1⟩)⟩, ⟨by (with_reducible repeat (first | apply Kd.R_alloc | apply Kd.R_drewN | apply Kd.R_drew)); exact Kd.R_mono HO_726002.out (fun _ hk => ⟨hk.1, hk.2.1⟩)⟩, ⟨by (with_reducible repeat (first | apply Kd.R_alloc | apply Kd.R_drewN | apply Kd.R_drew)); exact Kd.R_mono HO_734001.out (fun _ hk => ⟨hk.1.1, hk.1.2⟩)⟩, ⟨by (with_reducible repeat (first | apply Kd.R_alloc | apply Kd.R_drewN | apply Kd.R_drew)); exact Kd.R_mono HO_734002.out (fun _ hk => ⟨hk.1.1, hk.1.2⟩)⟩, ⟨by (with_reducible repeat (first | apply Kd.R_alloc | apply Kd.R_drewN | apply Kd.R_drew)); exact Kd.R_mono HO_743001.out (fun _ hk => ⟨hk.1, hk.2.1⟩)⟩, ⟨by (with_reducible repeat (first | apply Kd.R_alloc | apply Kd.R_drewN | apply Kd.R_drew)); exact Kd.R_mono HO_743002.out (fun _ hk => ⟨hk.1, hk.2.1⟩)⟩, ⟨by exact qK BK708.out⟩, ⟨by exact qK BK725.out⟩, ⟨by exact qK BK733.out⟩, ⟨by exact qK BK742.out⟩, ⟨qB⟩⟩
        ·replace c77 := Bool.eq_false_iff.mpr c77
         subst c77
         have H1 : (laws_FnExactPruneCircuit.j1 kj10 t724 true a0_0 l0_1 l0_2 t717 t718 t721 t734 t735 t738) = some true := by rw [if_neg (show ¬ (false = true) by decide)] at H; exact H
         exact absurd H1 (by cases kj10 <;> simp [laws_FnExactPruneCircuit.j1])
      case rest =>
       clear HC64
       try clear c1
       try clear c2
       try clear p2
       try clear c3
       try clear c3b0
       try clear c4
       try clear c5
       try clear c6
       try clear c7
       try clear c8
       try clear c9
       try clear c11
       try clear c13
       try clear c15
       try clear c20
       try clear c21
       try clear c28
       try clear c29
       try clear c30
       try clear c31
       try clear c35
       try clear c36
       try clear c37
       try clear c42
       try clear c43
       try clear c44
       try clear c45
       try clear c47
       try clear c48
       try clear c51
       try clear c52
       try clear c53
       try clear c55
       try clear c56
       try clear c59
       try clear c62
       try clear c70
       try clear c71
       try clear c72
       try clear c75
       try clear c75b0
       try clear c77
       try clear c78
       try clear c79
       try clear c80
       try clear c82
       try clear c83
       try clear c86
       try clear c87
       try clear c88
       try clear c90
       try clear c91
       try clear hcz13_0
       try clear hcz13_1
       try clear hcz13_2
       try clear hcz15_0
       try clear hcz15_1
       try clear hcz15_2
       try clear hcz22_0
       try clear hcz22_1
       try clear hcz22_2
       try clear hcz25_0
       try clear hcz25_1
       try clear hcz25_2
       try clear hcz30_0
       try clear hcz30_1
       try clear hcz30_2
       try clear hcz38_0
       try clear hcz38_1
       try clear hcz38_2
       try clear hcz46_0
       try clear hcz46_1
       try clear hcz46_2
       try clear hcz49_0
       try clear hcz49_1
       try clear hcz49_2
       try clear hcz54_0
       try clear hcz54_1
       try clear hcz54_2
       try clear hcz57_0
       try clear hcz57_1
       try clear hcz57_2
       try clear hcz5_0
       try clear hcz5_1
       try clear hcz5_2
       try clear hcz73_0
       try clear hcz73_1
       try clear hcz73_2
       try clear hcz81_0
       try clear hcz81_1
       try clear hcz81_2
       try clear hcz84_0
       try clear hcz84_1
       try clear hcz84_2
       try clear hcz89_0
       try clear hcz89_1
       try clear hcz89_2
       try clear hcz92_0
       try clear hcz92_1
       try clear hcz92_2
       try clear hfz13_0
       try clear hfz13_1
       try clear hfz13_2
       try clear hfz15_0
       try clear hfz15_1
       try clear hfz15_2
       try clear hfz22_0
       try clear hfz22_1
       try clear hfz22_2
       try clear hfz25_0
       try clear hfz25_1
       try clear hfz25_2
       try clear hfz30_0
       try clear hfz30_1
       try clear hfz30_2
       try clear hfz38_0
       try clear hfz38_1
       try clear hfz38_2
       try clear hfz46_0
       try clear hfz46_1
       try clear hfz46_2
       try clear hfz49_0
       try clear hfz49_1
       try clear hfz49_2
       try clear hfz54_0
       try clear hfz54_1
       try clear hfz54_2
       try clear hfz57_0
       try clear hfz57_1
       try clear hfz57_2
       try clear hfz5_0
       try clear hfz5_1
       try clear hfz5_2
       try clear hfz73_0
       try clear hfz73_1
       try clear hfz73_2
       try clear hfz81_0
       try clear hfz81_1
       try clear hfz81_2
       try clear hfz84_0
       try clear hfz84_1
       try clear hfz84_2
       try clear hfz89_0
       try clear hfz89_1
       try clear hfz89_2
       try clear hfz92_0
       try clear hfz92_1
       try clear hfz92_2
       try clear p2
       obtain ⟨kq, x61_63, rfl, HA, HJ63, HO_726001, HO_726002, HO_734001, HO_734002, HO_743001, HO_743002, BK708, BK725, BK733, BK742, HB⟩ := hcut
       have hl734001_63 := (Kd.R_reads' HO_734001.out).1
       rw [hl734001_63] at HO_734001
       (try simp only [hl734001_63])
       (try simp only [hl734001_63] at BK708)
       (try simp only [hl734001_63] at BK725)
       (try simp only [hl734001_63] at BK733)
       (try simp only [hl734001_63] at BK742)
       (try simp only [hl734001_63] at HO_726001)
       (try simp only [hl734001_63] at HO_726002)
       (try simp only [hl734001_63] at HO_734002)
       (try simp only [hl734001_63] at HO_743001)
       (try simp only [hl734001_63] at HO_743002)
       have hl734002_63 := (Kd.R_reads' HO_734002.out).1
       rw [hl734002_63] at HO_734002
       (try simp only [hl734002_63])
       (try simp only [hl734002_63] at BK708)
       (try simp only [hl734002_63] at BK725)
       (try simp only [hl734002_63] at BK733)
       (try simp only [hl734002_63] at BK742)
       (try simp only [hl734002_63] at HO_726001)
       (try simp only [hl734002_63] at HO_726002)
       (try simp only [hl734002_63] at HO_734001)
       (try simp only [hl734002_63] at HO_743001)
       (try simp only [hl734002_63] at HO_743002)
       cases kq with
       | zero => exact absurd HA.out (by simp [laws_FnExactPruneCircuit.j1])
       | succ kj63 =>
        have H := HA.out
        clear HA
        simp only [laws_FnExactPruneCircuit.j1] at H
        by_cases c94 : x61_63 = true
        ·subst c94
         have H1 : (some false) = some true := by rw [if_pos rfl] at H; exact H
         exact absurd H1 (by simp)
        ·replace c94 := Bool.eq_false_iff.mpr c94
         subst c94
         have H1 : ((laws_markCircuit.f kj63 t734 t735 t738 1).bind fun bt756 => ((laws_heldCircuit.f kj63 t734 bt756.2.1 bt756.2.2 1).bind fun t759 => (if t759 < 0 then (some false) else (if t759 = bt756.1 then ((laws_toCircuit.f kj63 a0_0 l0_1 l0_2).bind fun bt760 => ((impl_PruneCircuit.f kj63 bt760.1 bt760.2.1 bt760.2.2).bind fun bt767 => ((laws_eqCircuit.f kj63 bt767.1 bt767.2.1 bt767.2.2.1 t717 t718 t721).bind fun t776 => (if t776 = true then (laws_FnExactPruneCircuit.j2 kj63 bt756.1 (bt767.2.2.2 != t724) t734 bt756.2.1 bt756.2.2) else (laws_FnExactPruneCircuit.j2 kj63 bt756.1 true t734 bt756.2.1 bt756.2.2))))) else (some false))))) = some true := by rw [if_neg (show ¬ (false = true) by decide)] at H; exact H
         clear H
         have H := H1
         clear H1
         replace H := Option.bind_eq_some_iff.mp H
         obtain ⟨⟨t756, t757, t758⟩, A950, H⟩ := H
         replace H : ((laws_heldCircuit.f kj63 t734 t757 t758 1).bind fun t759 => (if t759 < 0 then (some false) else (if t759 = t756 then ((laws_toCircuit.f kj63 a0_0 l0_1 l0_2).bind fun bt760 => ((impl_PruneCircuit.f kj63 bt760.1 bt760.2.1 bt760.2.2).bind fun bt767 => ((laws_eqCircuit.f kj63 bt767.1 bt767.2.1 bt767.2.2.1 t717 t718 t721).bind fun t776 => (if t776 = true then (laws_FnExactPruneCircuit.j2 kj63 t756 (bt767.2.2.2 != t724) t734 t757 t758) else (laws_FnExactPruneCircuit.j2 kj63 t756 true t734 t757 t758))))) else (some false)))) = some true := H
         have A95 := Aside0.mk A950
         clear A950
         replace H := Option.bind_eq_some_iff.mp H
         obtain ⟨t759, A960, H⟩ := H
         replace H : (if t759 < 0 then (some false) else (if t759 = t756 then ((laws_toCircuit.f kj63 a0_0 l0_1 l0_2).bind fun bt760 => ((impl_PruneCircuit.f kj63 bt760.1 bt760.2.1 bt760.2.2).bind fun bt767 => ((laws_eqCircuit.f kj63 bt767.1 bt767.2.1 bt767.2.2.1 t717 t718 t721).bind fun t776 => (if t776 = true then (laws_FnExactPruneCircuit.j2 kj63 t756 (bt767.2.2.2 != t724) t734 t757 t758) else (laws_FnExactPruneCircuit.j2 kj63 t756 true t734 t757 t758))))) else (some false))) = some true := H
         have A96 := Aside0.mk A960
         clear A960
         by_cases c97 : t759 < 0
         ·rw [if_pos c97] at H
          exact absurd H (by simp)
         ·rw [if_neg c97] at H
          have c97b0 : decide (t759 < 0) = false := decide_eq_false c97
          clear c97
          by_cases c105 : t759 = t756
          ·rw [if_pos c105] at H
           have c105b0 : (t759 == t756) = true := beq_iff_eq.mpr c105
           have c105b1 : (t759 != t756) = false := bne_eq_false_iff_eq.mpr c105
           clear c105
           replace H := Option.bind_eq_some_iff.mp H
           obtain ⟨⟨t760, t761, t764⟩, A1060, H⟩ := H
           replace H : ((impl_PruneCircuit.f kj63 t760 t761 t764).bind fun bt767 => ((laws_eqCircuit.f kj63 bt767.1 bt767.2.1 bt767.2.2.1 t717 t718 t721).bind fun t776 => (if t776 = true then (laws_FnExactPruneCircuit.j2 kj63 t756 (bt767.2.2.2 != t724) t734 t757 t758) else (laws_FnExactPruneCircuit.j2 kj63 t756 true t734 t757 t758)))) = some true := H
           have A106 := Aside0.mk A1060
           clear A1060
           replace H := Option.bind_eq_some_iff.mp H
           obtain ⟨⟨t767, t768, t771, t774⟩, A1070, H⟩ := H
           replace H : ((laws_eqCircuit.f kj63 t767 t768 t771 t717 t718 t721).bind fun t776 => (if t776 = true then (laws_FnExactPruneCircuit.j2 kj63 t756 (t774 != t724) t734 t757 t758) else (laws_FnExactPruneCircuit.j2 kj63 t756 true t734 t757 t758))) = some true := H
           have A107 := Aside0.mk A1070
           clear A1070
           have HC108 := Aside0.mk H
           clear H
           have hnb109 := NB742_708.out
           have hnc109 := NB708_742.out
           have hnb110 := NB742_725.out
           have hnc110 := NB725_742.out
           have hnb111 := NB742_733.out
           have hnc111 := NB733_742.out
           have hcz112_0 : wc.cell? ⟨gb742, 0, none⟩ = some (.int .i64 t734) := (blk_cell BK742.out 0).trans rfl
           have hcz112_1 : wc.cell? ⟨gb742, 1, none⟩ = some (.slice Ao39 t735.length co39) := (blk_cell BK742.out 1).trans rfl
           have hcz112_2 : wc.cell? ⟨gb742, 2, none⟩ = some (.slice Ao40 t738.length co40) := (blk_cell BK742.out 2).trans rfl
           have hfz112_0 := blk_frozen BK742.out 0
           have hfz112_1 := blk_frozen BK742.out 1
           have hfz112_2 := blk_frozen BK742.out 2
           go_upto_region 25 with (first | ((with_reducible refine gate_callee (f := 20) rfl ?_); refine goesL_ (some 64) rfl rfl Try.func20 (by kernel_rfl) rfl #[.agg #[.int .i64 t734, .slice Ao39 t735.length co39, .slice Ao40 t738.length co40], .int .i64 1] rfl qG ?_; (with_reducible refine (laws_markCircuit.calls kj63 t734 (fun k_ => some k_ = (.slice Ao39 t735.length co39 : Value).ownBlock) (.slice Ao39 t735.length co39) t735 (fun k_ => some k_ = (.slice Ao40 t738.length co40 : Value).ownBlock) (.slice Ao40 t738.length co40) t738 1 t756 t757 t758 w _ ?side1 ?side2 ?side3 A95.out).mono ?_); (case side1 => repeat (first | (with_reducible first | exact HB.out | apply below_alloc | apply pw_below_drewN | apply below_drew1 | refine below_set ?_ GE708.out | refine below_set ?_ GE725.out | refine below_set ?_ GE733.out | refine below_set ?_ GE742.out) | exact HB.out)); (case side2 => exact Kd.R_tight rfl HO_743001.out); (case side3 => exact Kd.R_tight rfl HO_743002.out); rintro e w113 ⟨rfl, hy0, hy1, hb, hkp⟩; refine ⟨_, rfl, ?_⟩; have n0_ := Aside0.mk (Kd.R_mono (ok' := fun k_ => some k_ ≠ (.slice Ao31 t753.length co31 : Value).ownBlock ∧ some k_ ≠ (.slice Ao39 t735.length co39 : Value).ownBlock) (Kd.R_keptB ((Kd.R_apart' HO_726001.out (Kd.R_typed HO_743002.out) (by decide))) hkp (fun k_ hk_ hs_ => Or.elim hs_ (fun e_ => (hk_.1.2) e_) (fun e_ => (hk_.2) e_))) (fun k_ hk_ => ⟨hk_.1.1.1, hk_.1.1.2⟩)); have n1_ := Aside0.mk (Kd.R_mono (ok' := fun k_ => some k_ ≠ (.slice Ao32 t754.length co32 : Value).ownBlock ∧ some k_ ≠ (.slice Ao40 t738.length co40 : Value).ownBlock) (Kd.R_keptB ((Kd.R_apart' HO_726002.out (Kd.R_typed HO_743001.out) (by decide))) hkp (fun k_ hk_ hs_ => Or.elim hs_ (fun e_ => (hk_.2) e_) (fun e_ => (hk_.1.2) e_))) (fun k_ hk_ => ⟨hk_.1.1.1, hk_.1.1.2⟩)); have n2_ := Aside0.mk (Kd.R_mono (ok' := fun k_ => some k_ ≠ (.slice Ao23 t718.length co23 : Value).ownBlock ∧ some k_ ≠ (.slice Ao39 t735.length co39 : Value).ownBlock) (Kd.R_keptB ((Kd.R_apart' HO_734001.out (Kd.R_typed HO_743002.out) (by decide))) hkp (fun k_ hk_ hs_ => Or.elim hs_ (fun e_ => (hk_.1.2) e_) (fun e_ => (hk_.2) e_))) (fun k_ hk_ => ⟨hk_.1.1.1, hk_.1.1.2⟩)); have n3_ := Aside0.mk (Kd.R_mono (ok' := fun k_ => some k_ ≠ (.slice Ao24 t721.length co24 : Value).ownBlock ∧ some k_ ≠ (.slice Ao40 t738.length co40 : Value).ownBlock) (Kd.R_keptB ((Kd.R_apart' HO_734002.out (Kd.R_typed HO_743001.out) (by decide))) hkp (fun k_ hk_ hs_ => Or.elim hs_ (fun e_ => (hk_.2) e_) (fun e_ => (hk_.1.2) e_))) (fun k_ hk_ => ⟨hk_.1.1.1, hk_.1.1.2⟩)); have n4_ := Aside0.mk (Kd.R_reok rfl hy0 (fun k_ e_ => HO_743001.out.1 k_ e_)); have n5_ := Aside0.mk (Kd.R_reok rfl hy1 (fun k_ e_ => HO_743002.out.1 k_ e_)); have n6_ := Aside0.mk (blk_kept BK708.out hkp (fun hs_ => Or.elim hs_ (fun e_ => (fun e_ => (Kd.R_ne HO_743001.out BK708.out (by decide)) e_) e_) (fun e_ => (fun e_ => (Kd.R_ne HO_743002.out BK708.out (by decide)) e_) e_))); have n7_ := Aside0.mk (blk_kept BK725.out hkp (fun hs_ => Or.elim hs_ (fun e_ => (fun e_ => (Kd.R_ne HO_743001.out BK725.out (by decide)) e_) e_) (fun e_ => (fun e_ => (Kd.R_ne HO_743002.out BK725.out (by decide)) e_) e_))); have n8_ := Aside0.mk (blk_kept BK733.out hkp (fun hs_ => Or.elim hs_ (fun e_ => (fun e_ => (Kd.R_ne HO_743001.out BK733.out (by decide)) e_) e_) (fun e_ => (fun e_ => (Kd.R_ne HO_743002.out BK733.out (by decide)) e_) e_))); have n9_ := Aside0.mk (blk_kept BK742.out hkp (fun hs_ => Or.elim hs_ (fun e_ => (fun e_ => (Kd.R_ne HO_743001.out BK742.out (by decide)) e_) e_) (fun e_ => (fun e_ => (Kd.R_ne HO_743002.out BK742.out (by decide)) e_) e_))); have n10_ := Aside0.mk (hb); clear HO_726001; clear HO_726002; clear HO_734001; clear HO_734002; clear HO_743001; clear HO_743002; clear BK708; clear BK725; clear BK733; clear BK742; clear HB; have HO_726001 := n0_; have HO_726002 := n1_; have HO_734001 := n2_; have HO_734002 := n3_; have HO_743001 := n4_; have HO_743002 := n5_; have BK708 := n6_; have BK725 := n7_; have BK733 := n8_; have BK742 := n9_; have HB := n10_; clear n0_ n1_ n2_ n3_ n4_ n5_ n6_ n7_ n8_ n9_ n10_; (try clear hb); (try clear hkp); (try clear hy0); (try clear hy1); have hcz114_0 : w113.cell? ⟨gb742, 0, none⟩ = some (.int .i64 t734) := (blk_cell BK742.out 0).trans rfl; have hcz114_1 : w113.cell? ⟨gb742, 1, none⟩ = some (.slice Ao39 t735.length co39) := (blk_cell BK742.out 1).trans rfl; have hcz114_2 : w113.cell? ⟨gb742, 2, none⟩ = some (.slice Ao40 t738.length co40) := (blk_cell BK742.out 2).trans rfl; have hfz114_0 := blk_frozen BK742.out 0; have hfz114_1 := blk_frozen BK742.out 1; have hfz114_2 := blk_frozen BK742.out 2) | ((with_reducible refine gate_callee (f := 32) rfl ?_); refine goesL_ (some 67) rfl rfl Try.func32 (by kernel_rfl) rfl #[.agg #[.int .i64 t734, .slice Ao39 t757.length co39, .slice Ao40 t758.length co40], .int .i64 1] rfl (by (try simp only [List.map_toArray, List.map_cons, List.map_nil]); first | done | (rw [show t757.length = t735.length from (Kd.R_reads' HO_743001.out).1.symm, show t758.length = t738.length from (Kd.R_reads' HO_743002.out).1.symm] <;> rfl) | rfl | (simp only [List.length_drop, List.length_take]; rfl)) ?_; (with_reducible refine (laws_heldCircuit.calls kj63 t734 _ _ t757 _ _ t758 1 t759 _ ?side1 ?side2 ?side3 ?side4 A96.out).mono ?_); (case side1 => repeat (first | exact (Kd.R_reads' HO_743001.out).2.2 | (with_reducible refine Kd.C_alloc ?_ _) | (with_reducible refine Kd.C_drewN ?_ _) | (with_reducible refine Kd.C_drew ?_))); (case side2 => rw [show t757.length = t735.length from (Kd.R_reads' HO_743001.out).1.symm]; exact (Kd.R_reads' HO_743001.out).2.1); (case side3 => repeat (first | exact (Kd.R_reads' HO_743002.out).2.2 | (with_reducible refine Kd.C_alloc ?_ _) | (with_reducible refine Kd.C_drewN ?_ _) | (with_reducible refine Kd.C_drew ?_))); (case side4 => rw [show t758.length = t738.length from (Kd.R_reads' HO_743002.out).1.symm]; exact (Kd.R_reads' HO_743002.out).2.1); rintro e w115 ⟨rfl, hb⟩; refine ⟨_, rfl, ?_⟩; have n0_ := Aside0.mk (Kd.R_below (qR HO_726001.out) hb); have n1_ := Aside0.mk (Kd.R_below (qR HO_726002.out) hb); have n2_ := Aside0.mk (Kd.R_below (qR HO_734001.out) hb); have n3_ := Aside0.mk (Kd.R_below (qR HO_734002.out) hb); have n4_ := Aside0.mk (Kd.R_below (qR HO_743001.out) hb); have n5_ := Aside0.mk (Kd.R_below (qR HO_743002.out) hb); have n6_ := Aside0.mk (blk_below (g := gb708) (o := .cells #[.int .i64 a0_0, .slice A0_1 l0_1.length c0_1, .slice A0_2 l0_2.length c0_2] 25 (0, 0)) (qK BK708.out) hb); have n7_ := Aside0.mk (blk_below (g := gb725) (o := .cells #[.int .i64 t717, .slice Ao23 t718.length co23, .slice Ao24 t721.length co24] 30 (0, 0)) (qK BK725.out) hb); have n8_ := Aside0.mk (blk_below (g := gb733) (o := .cells #[.int .i64 t726, .slice Ao31 t753.length co31, .slice Ao32 t754.length co32] 30 (0, 0)) (qK BK733.out) hb); have n9_ := Aside0.mk (blk_below (g := gb742) (o := .cells #[.int .i64 t734, .slice Ao39 t735.length co39, .slice Ao40 t738.length co40] 30 (0, 0)) (qK BK742.out) hb); have n10_ := Aside0.mk (below_step (qB) hb); clear HO_726001; clear HO_726002; clear HO_734001; clear HO_734002; clear HO_743001; clear HO_743002; clear BK708; clear BK725; clear BK733; clear BK742; clear HB; have HO_726001 := n0_; have HO_726002 := n1_; have HO_734001 := n2_; have HO_734002 := n3_; have HO_743001 := n4_; have HO_743002 := n5_; have BK708 := n6_; have BK725 := n7_; have BK733 := n8_; have BK742 := n9_; have HB := n10_; clear n0_ n1_ n2_ n3_ n4_ n5_ n6_ n7_ n8_ n9_ n10_; (try clear hb); (try clear hb2); (try clear hk); (try clear hi); have hnb116 := NB708_725.out; have hnc116 := NB725_708.out; have hnb117 := NB708_733.out; have hnc117 := NB733_708.out; have hcz118_0 : w115.cell? ⟨gb708, 0, none⟩ = some (.int .i64 a0_0) := (blk_cell BK708.out 0).trans rfl; have hcz118_1 : w115.cell? ⟨gb708, 1, none⟩ = some (.slice A0_1 l0_1.length c0_1) := (blk_cell BK708.out 1).trans rfl; have hcz118_2 : w115.cell? ⟨gb708, 2, none⟩ = some (.slice A0_2 l0_2.length c0_2) := (blk_cell BK708.out 2).trans rfl; have hfz118_0 := blk_frozen BK708.out 0; have hfz118_1 := blk_frozen BK708.out 1; have hfz118_2 := blk_frozen BK708.out 2) | ((with_reducible refine gate_callee (f := 13) rfl ?_); refine goesL_ (some 75) rfl rfl Try.func13 (by kernel_rfl) rfl #[.agg #[.int .i64 a0_0, .slice A0_1 l0_1.length c0_1, .slice A0_2 l0_2.length c0_2]] rfl qG ?_; (with_reducible refine (laws_toCircuit.calls kj63 a0_0 _ _ l0_1 _ _ l0_2 t760 t761 t764 _ ?side1 ?side2 ?side3 ?side4 A106.out).mono ?_); (case side1 => exact qC (Kd.C_below HR0_1.out HB.out)); (case side2 => exact HC0_1.out); (case side3 => exact qC (Kd.C_below HR0_2.out HB.out)); (case side4 => exact HC0_2.out); rintro e w119 ⟨v762, v765, rfl, ho0, ho1, hb⟩; refine ⟨_, rfl, ?_⟩; have n0_ := Aside0.mk (Kd.R_elder' (qR HO_726001.out) (Kd.R_base ho0) hb); have n1_ := Aside0.mk (Kd.R_elder' (qR HO_726002.out) (Kd.R_base ho1) hb); have n2_ := Aside0.mk (Kd.R_elder' (qR HO_734001.out) (Kd.R_base ho0) hb); have n3_ := Aside0.mk (Kd.R_elder' (qR HO_734002.out) (Kd.R_base ho1) hb); have n4_ := Aside0.mk (Kd.R_elder' (qR HO_743001.out) (Kd.R_base ho0) hb); have n5_ := Aside0.mk (Kd.R_elder' (qR HO_743002.out) (Kd.R_base ho1) hb); have n6_ := Aside0.mk (Kd.R_lower (Kd.R_new' (Kd.R_new' (Kd.R_new' ho0 (Kd.R_lt (qR HO_726001.out))) (Kd.R_lt (qR HO_734001.out))) (Kd.R_lt (qR HO_743001.out))) (below_size (qB))); have n7_ := Aside0.mk (Kd.R_lower (Kd.R_new' (Kd.R_new' (Kd.R_new' ho1 (Kd.R_lt (qR HO_726002.out))) (Kd.R_lt (qR HO_734002.out))) (Kd.R_lt (qR HO_743002.out))) (below_size (qB))); have n8_ := Aside0.mk (blk_below (g := gb708) (o := .cells #[.int .i64 a0_0, .slice A0_1 l0_1.length c0_1, .slice A0_2 l0_2.length c0_2] 25 (0, 0)) (qK BK708.out) hb); have n9_ := Aside0.mk (blk_below (g := gb725) (o := .cells #[.int .i64 t717, .slice Ao23 t718.length co23, .slice Ao24 t721.length co24] 30 (0, 0)) (qK BK725.out) hb); have n10_ := Aside0.mk (blk_below (g := gb733) (o := .cells #[.int .i64 t726, .slice Ao31 t753.length co31, .slice Ao32 t754.length co32] 30 (0, 0)) (qK BK733.out) hb); have n11_ := Aside0.mk (blk_below (g := gb742) (o := .cells #[.int .i64 t734, .slice Ao39 t735.length co39, .slice Ao40 t738.length co40] 30 (0, 0)) (qK BK742.out) hb); have n12_ := Aside0.mk (below_step (qB) hb); clear HO_726001; clear HO_726002; clear HO_734001; clear HO_734002; clear HO_743001; clear HO_743002; clear BK708; clear BK725; clear BK733; clear BK742; clear HB; have HO_726001 := n0_; have HO_726002 := n1_; have HO_734001 := n2_; have HO_734002 := n3_; have HO_743001 := n4_; have HO_743002 := n5_; have HO763 := n6_; have HO766 := n7_; have BK708 := n8_; have BK725 := n9_; have BK733 := n10_; have BK742 := n11_; have HB := n12_; clear n0_ n1_ n2_ n3_ n4_ n5_ n6_ n7_ n8_ n9_ n10_ n11_ n12_; (try clear hb); (try clear hb2); (try clear hk); (try clear hi); (try clear ho0); (try clear ho1); obtain ⟨Ao120, co120, eo120⟩ := Kd.R_slice HO763.out; subst eo120; obtain ⟨Ao121, co121, eo121⟩ := Kd.R_slice HO766.out; subst eo121) | ((with_reducible refine gate_callee (f := 31) rfl ?_); refine goesL_ (some 76) rfl rfl Try.func31 (by kernel_rfl) rfl #[.agg #[.int .i64 t760, .slice Ao120 t761.length co120, .slice Ao121 t764.length co121]] rfl qG ?_; (with_reducible refine (impl_PruneCircuit.calls kj63 t760 _ _ t761 _ _ t764 t767 t768 t771 t774 _ ?side1 ?side2 ?side3 ?side4 A107.out).mono ?_); (case side1 => repeat (first | exact (Kd.R_reads' HO763.out).2.2 | (with_reducible refine Kd.C_alloc ?_ _) | (with_reducible refine Kd.C_drewN ?_ _) | (with_reducible refine Kd.C_drew ?_))); (case side2 => exact (Kd.R_reads' HO763.out).2.1); (case side3 => repeat (first | exact (Kd.R_reads' HO766.out).2.2 | (with_reducible refine Kd.C_alloc ?_ _) | (with_reducible refine Kd.C_drewN ?_ _) | (with_reducible refine Kd.C_drew ?_))); (case side4 => exact (Kd.R_reads' HO766.out).2.1); rintro e w122 ⟨v769, v772, rfl, ho0, ho1, hb⟩; refine ⟨_, rfl, ?_⟩; have n0_ := Aside0.mk (Kd.R_elder' (qR HO_726001.out) (Kd.R_base ho0) hb); have n1_ := Aside0.mk (Kd.R_elder' (qR HO_726002.out) (Kd.R_base ho1) hb); have n2_ := Aside0.mk (Kd.R_elder' (qR HO_734001.out) (Kd.R_base ho0) hb); have n3_ := Aside0.mk (Kd.R_elder' (qR HO_734002.out) (Kd.R_base ho1) hb); have n4_ := Aside0.mk (Kd.R_elder' (qR HO_743001.out) (Kd.R_base ho0) hb); have n5_ := Aside0.mk (Kd.R_elder' (qR HO_743002.out) (Kd.R_base ho1) hb); have n6_ := Aside0.mk (Kd.R_elder' (qR HO763.out) (Kd.R_base ho0) hb); have n7_ := Aside0.mk (Kd.R_elder' (qR HO766.out) (Kd.R_base ho1) hb); have n8_ := Aside0.mk (Kd.R_lower (Kd.R_new' (Kd.R_new' (Kd.R_new' (Kd.R_new' ho0 (Kd.R_lt (qR HO_726001.out))) (Kd.R_lt (qR HO_734001.out))) (Kd.R_lt (qR HO_743001.out))) (Kd.R_lt (qR HO763.out))) (below_size (qB))); have n9_ := Aside0.mk (Kd.R_lower (Kd.R_new' (Kd.R_new' (Kd.R_new' (Kd.R_new' ho1 (Kd.R_lt (qR HO_726002.out))) (Kd.R_lt (qR HO_734002.out))) (Kd.R_lt (qR HO_743002.out))) (Kd.R_lt (qR HO766.out))) (below_size (qB))); have n10_ := Aside0.mk (blk_below (g := gb708) (o := .cells #[.int .i64 a0_0, .slice A0_1 l0_1.length c0_1, .slice A0_2 l0_2.length c0_2] 25 (0, 0)) (qK BK708.out) hb); have n11_ := Aside0.mk (blk_below (g := gb725) (o := .cells #[.int .i64 t717, .slice Ao23 t718.length co23, .slice Ao24 t721.length co24] 30 (0, 0)) (qK BK725.out) hb); have n12_ := Aside0.mk (blk_below (g := gb733) (o := .cells #[.int .i64 t726, .slice Ao31 t753.length co31, .slice Ao32 t754.length co32] 30 (0, 0)) (qK BK733.out) hb); have n13_ := Aside0.mk (blk_below (g := gb742) (o := .cells #[.int .i64 t734, .slice Ao39 t735.length co39, .slice Ao40 t738.length co40] 30 (0, 0)) (qK BK742.out) hb); have n14_ := Aside0.mk (below_step (qB) hb); clear HO_726001; clear HO_726002; clear HO_734001; clear HO_734002; clear HO_743001; clear HO_743002; clear HO763; clear HO766; clear BK708; clear BK725; clear BK733; clear BK742; clear HB; have HO_726001 := n0_; have HO_726002 := n1_; have HO_734001 := n2_; have HO_734002 := n3_; have HO_743001 := n4_; have HO_743002 := n5_; have HO763 := n6_; have HO766 := n7_; have HO770 := n8_; have HO773 := n9_; have BK708 := n10_; have BK725 := n11_; have BK733 := n12_; have BK742 := n13_; have HB := n14_; clear n0_ n1_ n2_ n3_ n4_ n5_ n6_ n7_ n8_ n9_ n10_ n11_ n12_ n13_ n14_; (try clear hb); (try clear hb2); (try clear hk); (try clear hi); (try clear ho0); (try clear ho1)) | ((with_reducible refine gate_dst (N := 12) rfl ?_); refine box_event ?hg (N := 12) ?hd (cs := #[.int .i64 0, .slice none 0 0, .slice none 0 0]) (t := 30) ?hr ?_; (case hd => rfl); (case hg => rfl); (case hr => first | (go_simp; done) | (go_simp; rfl)); intro gb775 hg w123 hbox hb; have n0_ := Aside0.mk (Kd.R_below (qR HO_726001.out) hb); have n1_ := Aside0.mk (Kd.R_below (qR HO_726002.out) hb); have n2_ := Aside0.mk (Kd.R_below (qR HO_734001.out) hb); have n3_ := Aside0.mk (Kd.R_below (qR HO_734002.out) hb); have n4_ := Aside0.mk (Kd.R_below (qR HO_743001.out) hb); have n5_ := Aside0.mk (Kd.R_below (qR HO_743002.out) hb); have n6_ := Aside0.mk (Kd.R_below (qR HO763.out) hb); have n7_ := Aside0.mk (Kd.R_below (qR HO766.out) hb); have n8_ := Aside0.mk (Kd.R_below (qR HO770.out) hb); have n9_ := Aside0.mk (Kd.R_below (qR HO773.out) hb); have n10_ := Aside0.mk (blk_below (g := gb708) (o := .cells #[.int .i64 a0_0, .slice A0_1 l0_1.length c0_1, .slice A0_2 l0_2.length c0_2] 25 (0, 0)) (qK BK708.out) hb); have n11_ := Aside0.mk (blk_below (g := gb725) (o := .cells #[.int .i64 t717, .slice Ao23 t718.length co23, .slice Ao24 t721.length co24] 30 (0, 0)) (qK BK725.out) hb); have n12_ := Aside0.mk (blk_below (g := gb733) (o := .cells #[.int .i64 t726, .slice Ao31 t753.length co31, .slice Ao32 t754.length co32] 30 (0, 0)) (qK BK733.out) hb); have n13_ := Aside0.mk (blk_below (g := gb742) (o := .cells #[.int .i64 t734, .slice Ao39 t735.length co39, .slice Ao40 t738.length co40] 30 (0, 0)) (qK BK742.out) hb); have n14_ := Aside0.mk (below_step (qB) hb); have n15_ := Aside0.mk (hbox); have n16_ := Aside0.mk ((by rw [hg]; exact (below_size (qB)) : w.heap.size ≤ gb775)); have n17_ := Aside0.mk ((by rw [hg]; exact (below_size (qB)) : w.heap.size ≤ gb775)); have n18_ := Aside0.mk ((by rw [hg]; exact Nat.ne_of_lt (blk_lt (g := gb708) (o := .cells #[.int .i64 a0_0, .slice A0_1 l0_1.length c0_1, .slice A0_2 l0_2.length c0_2] 25 (0, 0)) (qK BK708.out)) : gb708 ≠ gb775)); have n19_ := Aside0.mk ((by rw [hg]; exact Nat.ne_of_gt (blk_lt (g := gb708) (o := .cells #[.int .i64 a0_0, .slice A0_1 l0_1.length c0_1, .slice A0_2 l0_2.length c0_2] 25 (0, 0)) (qK BK708.out)) : gb775 ≠ gb708)); have n20_ := Aside0.mk ((by rw [hg]; exact Nat.ne_of_lt (blk_lt (g := gb725) (o := .cells #[.int .i64 t717, .slice Ao23 t718.length co23, .slice Ao24 t721.length co24] 30 (0, 0)) (qK BK725.out)) : gb725 ≠ gb775)); have n21_ := Aside0.mk ((by rw [hg]; exact Nat.ne_of_gt (blk_lt (g := gb725) (o := .cells #[.int .i64 t717, .slice Ao23 t718.length co23, .slice Ao24 t721.length co24] 30 (0, 0)) (qK BK725.out)) : gb775 ≠ gb725)); have n22_ := Aside0.mk ((by rw [hg]; exact Nat.ne_of_lt (blk_lt (g := gb733) (o := .cells #[.int .i64 t726, .slice Ao31 t753.length co31, .slice Ao32 t754.length co32] 30 (0, 0)) (qK BK733.out)) : gb733 ≠ gb775)); have n23_ := Aside0.mk ((by rw [hg]; exact Nat.ne_of_gt (blk_lt (g := gb733) (o := .cells #[.int .i64 t726, .slice Ao31 t753.length co31, .slice Ao32 t754.length co32] 30 (0, 0)) (qK BK733.out)) : gb775 ≠ gb733)); have n24_ := Aside0.mk ((by rw [hg]; exact Nat.ne_of_lt (blk_lt (g := gb742) (o := .cells #[.int .i64 t734, .slice Ao39 t735.length co39, .slice Ao40 t738.length co40] 30 (0, 0)) (qK BK742.out)) : gb742 ≠ gb775)); have n25_ := Aside0.mk ((by rw [hg]; exact Nat.ne_of_gt (blk_lt (g := gb742) (o := .cells #[.int .i64 t734, .slice Ao39 t735.length co39, .slice Ao40 t738.length co40] 30 (0, 0)) (qK BK742.out)) : gb775 ≠ gb742)); clear HO_726001; clear HO_726002; clear HO_734001; clear HO_734002; clear HO_743001; clear HO_743002; clear HO763; clear HO766; clear HO770; clear HO773; clear BK708; clear BK725; clear BK733; clear BK742; clear HB; have HO_726001 := n0_; have HO_726002 := n1_; have HO_734001 := n2_; have HO_734002 := n3_; have HO_743001 := n4_; have HO_743002 := n5_; have HO763 := n6_; have HO766 := n7_; have HO770 := n8_; have HO773 := n9_; have BK708 := n10_; have BK725 := n11_; have BK733 := n12_; have BK742 := n13_; have HB := n14_; have BK775 := n15_; have GW775 := n16_; have GE775 := n17_; have NB708_775 := n18_; have NB775_708 := n19_; have NB725_775 := n20_; have NB775_725 := n21_; have NB733_775 := n22_; have NB775_733 := n23_; have NB742_775 := n24_; have NB775_742 := n25_; clear n0_ n1_ n2_ n3_ n4_ n5_ n6_ n7_ n8_ n9_ n10_ n11_ n12_ n13_ n14_ n15_ n16_ n17_ n18_ n19_ n20_ n21_ n22_ n23_ n24_ n25_; clear hb hbox hg; have hnb124 := NB775_708.out; have hnc124 := NB708_775.out; have hnb125 := NB775_725.out; have hnc125 := NB725_775.out; have hnb126 := NB775_733.out; have hnc126 := NB733_775.out; have hnb127 := NB775_742.out; have hnc127 := NB742_775.out; have hcz128_0 : w123.cell? ⟨gb775, 0, none⟩ = some (.int .i64 0) := (blk_cell BK775.out 0).trans rfl; have hcz128_1 : w123.cell? ⟨gb775, 1, none⟩ = some (.slice none 0 0) := (blk_cell BK775.out 1).trans rfl; have hcz128_2 : w123.cell? ⟨gb775, 2, none⟩ = some (.slice none 0 0) := (blk_cell BK775.out 2).trans rfl; have hfz128_0 := blk_frozen BK775.out 0; have hfz128_1 := blk_frozen BK775.out 1; have hfz128_2 := blk_frozen BK775.out 2; obtain ⟨Ao129, co129, eo129⟩ := Kd.R_slice HO770.out; subst eo129; obtain ⟨Ao130, co130, eo130⟩ := Kd.R_slice HO773.out; subst eo130))
           (try simp only [Act.put, List.setIfInBounds_toArray, List.set_cons_zero, List.set_cons_succ])
           go_cut [87] (fun v87 wc => ∃ (kq : Nat) (x87_107 : Bool), v87 = .bool x87_107 ∧ Aside0 (laws_FnExactPruneCircuit.j2 kq t756 x87_107 t734 t757 t758 = some true) ∧ Aside0 (kq ≤ kj63) ∧ Aside0 (Kd.R k59 59 wc w.heap.size (fun k_ => some k_ ≠ ((.slice Ao31 t753.length co31) : Value).ownBlock ∧ some k_ ≠ ((.slice Ao39 t735.length co39) : Value).ownBlock ∧ some k_ ≠ ((.slice Ao129 t768.length co129) : Value).ownBlock) (.slice Ao23 t718.length co23) t718) ∧ Aside0 (Kd.R (Kd.int .i64) 3 wc w.heap.size (fun k_ => some k_ ≠ ((.slice Ao32 t754.length co32) : Value).ownBlock ∧ some k_ ≠ ((.slice Ao40 t738.length co40) : Value).ownBlock ∧ some k_ ≠ ((.slice Ao130 t771.length co130) : Value).ownBlock) (.slice Ao24 t721.length co24) t721) ∧ Aside0 (Kd.R k59 59 wc w.heap.size (fun k_ => some k_ ≠ ((.slice Ao23 t718.length co23) : Value).ownBlock ∧ some k_ ≠ ((.slice Ao39 t735.length co39) : Value).ownBlock ∧ some k_ ≠ ((.slice Ao129 t768.length co129) : Value).ownBlock) (.slice Ao31 t753.length co31) t753) ∧ Aside0 (Kd.R (Kd.int .i64) 3 wc w.heap.size (fun k_ => some k_ ≠ ((.slice Ao24 t721.length co24) : Value).ownBlock ∧ some k_ ≠ ((.slice Ao40 t738.length co40) : Value).ownBlock ∧ some k_ ≠ ((.slice Ao130 t771.length co130) : Value).ownBlock) (.slice Ao32 t754.length co32) t754) ∧ Aside0 (Kd.R k59 59 wc w.heap.size (fun k_ => some k_ ≠ ((.slice Ao23 t718.length co23) : Value).ownBlock ∧ some k_ ≠ ((.slice Ao31 t753.length co31) : Value).ownBlock ∧ some k_ ≠ ((.slice Ao129 t768.length co129) : Value).ownBlock) (.slice Ao39 t735.length co39) t757) ∧ Aside0 (Kd.R (Kd.int .i64) 3 wc w.heap.size (fun k_ => some k_ ≠ ((.slice Ao24 t721.length co24) : Value).ownBlock ∧ some k_ ≠ ((.slice Ao32 t754.length co32) : Value).ownBlock ∧ some k_ ≠ ((.slice Ao130 t771.length co130) : Value).ownBlock) (.slice Ao40 t738.length co40) t758) ∧ Aside0 (Kd.R k59 59 wc w.heap.size (fun k_ => some k_ ≠ ((.slice Ao23 t718.length co23) : Value).ownBlock ∧ some k_ ≠ ((.slice Ao31 t753.length co31) : Value).ownBlock ∧ some k_ ≠ ((.slice Ao39 t735.length co39) : Value).ownBlock) (.slice Ao129 t768.length co129) t768) ∧ Aside0 (Kd.R (Kd.int .i64) 3 wc w.heap.size (fun k_ => some k_ ≠ ((.slice Ao24 t721.length co24) : Value).ownBlock ∧ some k_ ≠ ((.slice Ao32 t754.length co32) : Value).ownBlock ∧ some k_ ≠ ((.slice Ao40 t738.length co40) : Value).ownBlock) (.slice Ao130 t771.length co130) t771) ∧ Aside0 (wc.heap[gb708]? = some (.cells #[.int .i64 a0_0, (.slice A0_1 l0_1.length c0_1), (.slice A0_2 l0_2.length c0_2)] 25 (0, 0))) ∧ Aside0 (wc.heap[gb725]? = some (.cells #[.int .i64 t717, (.slice Ao23 t718.length co23), (.slice Ao24 t721.length co24)] 30 (0, 0))) ∧ Aside0 (wc.heap[gb733]? = some (.cells #[.int .i64 t726, (.slice Ao31 t753.length co31), (.slice Ao32 t754.length co32)] 30 (0, 0))) ∧ Aside0 (wc.heap[gb742]? = some (.cells #[.int .i64 t734, (.slice Ao39 t735.length co39), (.slice Ao40 t738.length co40)] 30 (0, 0))) ∧ Aside0 (wc.heap[gb775]? = some (.cells #[.int .i64 t767, (.slice Ao129 t768.length co129), (.slice Ao130 t771.length co130)] 30 (0, 0))) ∧ Aside0 (Below w.heap.size w wc))
           case first =>
            have H := HC108.out
            clear HC108
            replace H := Option.bind_eq_some_iff.mp H
            obtain ⟨t776, A1310, H⟩ := H
            replace H : (if t776 = true then (laws_FnExactPruneCircuit.j2 kj63 t756 (t774 != t724) t734 t757 t758) else (laws_FnExactPruneCircuit.j2 kj63 t756 true t734 t757 t758)) = some true := H
            have A131 := Aside0.mk A1310
            clear A1310
            by_cases c132 : t776 = true
            ·subst c132
             have H1 : (laws_FnExactPruneCircuit.j2 kj63 t756 (t774 != t724) t734 t757 t758) = some true := by rw [if_pos rfl] at H; exact H
             clear H
             have H := H1
             clear H1
             have H' := Aside0.mk H
             clear H
             have hnb133 := NB775_708.out
             have hnc133 := NB708_775.out
             have hnb134 := NB775_725.out
             have hnc134 := NB725_775.out
             have hnb135 := NB775_733.out
             have hnc135 := NB733_775.out
             have hnb136 := NB775_742.out
             have hnc136 := NB742_775.out
             have hcz137_0 : w123.cell? ⟨gb775, 0, none⟩ = some (.int .i64 0) := (blk_cell BK775.out 0).trans rfl
             have hcz137_1 : w123.cell? ⟨gb775, 1, none⟩ = some (.slice none 0 0) := (blk_cell BK775.out 1).trans rfl
             have hcz137_2 : w123.cell? ⟨gb775, 2, none⟩ = some (.slice none 0 0) := (blk_cell BK775.out 2).trans rfl
             have hfz137_0 := blk_frozen BK775.out 0
             have hfz137_1 := blk_frozen BK775.out 1
             have hfz137_2 := blk_frozen BK775.out 2
             have hnb138 := NB725_708.out
             have hnc138 := NB708_725.out
             have hnb139 := NB725_733.out
             have hnc139 := NB733_725.out
             have hnb140 := NB725_742.out
             have hnc140 := NB742_725.out
             have hcz141_0 : w123.cell? ⟨gb725, 0, none⟩ = some (.int .i64 t717) := (blk_cell BK725.out 0).trans rfl
             have hcz141_1 : w123.cell? ⟨gb725, 1, none⟩ = some (.slice Ao23 t718.length co23) := (blk_cell BK725.out 1).trans rfl
             have hcz141_2 : w123.cell? ⟨gb725, 2, none⟩ = some (.slice Ao24 t721.length co24) := (blk_cell BK725.out 2).trans rfl
             have hfz141_0 := blk_frozen BK725.out 0
             have hfz141_1 := blk_frozen BK725.out 1
             have hfz141_2 := blk_frozen BK725.out 2
             go_wp2_with (first | ((with_reducible refine gate_callee (f := 15) rfl ?_); refine goesL_ (some 81) rfl rfl Try.func15 (by kernel_rfl) rfl #[.agg #[.int .i64 t767, .slice Ao129 t768.length co129, .slice Ao130 t771.length co130], .agg #[.int .i64 t717, .slice Ao23 t718.length co23, .slice Ao24 t721.length co24]] rfl qG ?_; (with_reducible refine (laws_eqCircuit.calls kj63 t767 _ _ t768 _ _ t771 t717 _ _ t718 _ _ t721 true _ ?side1 ?side2 ?side3 ?side4 ?side5 ?side6 ?side7 ?side8 A131.out).mono ?_); (case side1 => refine (Kd.R_reads' (e := 59) (base := w.heap.size) (ok := fun k_ => ((((True ∧ some k_ ≠ (.slice Ao23 t718.length co23 : Value).ownBlock) ∧ some k_ ≠ (.slice Ao31 t753.length co31 : Value).ownBlock) ∧ some k_ ≠ (.slice Ao39 t735.length co39 : Value).ownBlock) ∧ some k_ ≠ (.slice Ao120 t761.length co120 : Value).ownBlock)) (n := t768.length) (c := co129) ?_).2.2; exact (by (with_reducible repeat (first | apply Kd.R_alloc | apply Kd.R_drewN | apply Kd.R_drew)); exact (Kd.R_mono (Kd.R_far (p := ⟨gb775, 2, none⟩) (Kd.R_far (p := ⟨gb775, 1, none⟩) (Kd.R_far (p := ⟨gb775, 0, none⟩) (Kd.R_types HO770.out BK775.out (by decide)) (fun _ hk => hk.2) (.int .i64 t767)) (fun _ hk => hk.2) (.slice Ao129 t768.length co129)) (fun _ hk => hk.2) (.slice Ao130 t771.length co130)) (fun _ h_ => h_.1)))); (case side2 => exact (Kd.R_reads' HO770.out).2.1); (case side3 => refine (Kd.R_reads' (e := 3) (base := w.heap.size) (ok := fun k_ => ((((True ∧ some k_ ≠ (.slice Ao24 t721.length co24 : Value).ownBlock) ∧ some k_ ≠ (.slice Ao32 t754.length co32 : Value).ownBlock) ∧ some k_ ≠ (.slice Ao40 t738.length co40 : Value).ownBlock) ∧ some k_ ≠ (.slice Ao121 t764.length co121 : Value).ownBlock)) (n := t771.length) (c := co130) ?_).2.2; exact (by (with_reducible repeat (first | apply Kd.R_alloc | apply Kd.R_drewN | apply Kd.R_drew)); exact (Kd.R_mono (Kd.R_far (p := ⟨gb775, 2, none⟩) (Kd.R_far (p := ⟨gb775, 1, none⟩) (Kd.R_far (p := ⟨gb775, 0, none⟩) (Kd.R_types HO773.out BK775.out (by decide)) (fun _ hk => hk.2) (.int .i64 t767)) (fun _ hk => hk.2) (.slice Ao129 t768.length co129)) (fun _ hk => hk.2) (.slice Ao130 t771.length co130)) (fun _ h_ => h_.1)))); (case side4 => exact (Kd.R_reads' HO773.out).2.1); (case side5 => refine (Kd.R_reads' (e := 59) (base := w.heap.size) (ok := fun k_ => (((some k_ ≠ (.slice Ao31 t753.length co31 : Value).ownBlock ∧ some k_ ≠ (.slice Ao39 t735.length co39 : Value).ownBlock) ∧ some k_ ≠ (.slice Ao120 t761.length co120 : Value).ownBlock) ∧ some k_ ≠ (.slice Ao129 t768.length co129 : Value).ownBlock)) (n := t718.length) (c := co23) ?_).2.2; exact (by (with_reducible repeat (first | apply Kd.R_alloc | apply Kd.R_drewN | apply Kd.R_drew)); exact (Kd.R_mono (Kd.R_far (p := ⟨gb775, 2, none⟩) (Kd.R_far (p := ⟨gb775, 1, none⟩) (Kd.R_far (p := ⟨gb775, 0, none⟩) (Kd.R_types HO_726001.out BK775.out (by decide)) (fun _ hk => hk.2) (.int .i64 t767)) (fun _ hk => hk.2) (.slice Ao129 t768.length co129)) (fun _ hk => hk.2) (.slice Ao130 t771.length co130)) (fun _ h_ => h_.1)))); (case side6 => exact (Kd.R_reads' HO_726001.out).2.1); (case side7 => refine (Kd.R_reads' (e := 3) (base := w.heap.size) (ok := fun k_ => (((some k_ ≠ (.slice Ao32 t754.length co32 : Value).ownBlock ∧ some k_ ≠ (.slice Ao40 t738.length co40 : Value).ownBlock) ∧ some k_ ≠ (.slice Ao121 t764.length co121 : Value).ownBlock) ∧ some k_ ≠ (.slice Ao130 t771.length co130 : Value).ownBlock)) (n := t721.length) (c := co24) ?_).2.2; exact (by (with_reducible repeat (first | apply Kd.R_alloc | apply Kd.R_drewN | apply Kd.R_drew)); exact (Kd.R_mono (Kd.R_far (p := ⟨gb775, 2, none⟩) (Kd.R_far (p := ⟨gb775, 1, none⟩) (Kd.R_far (p := ⟨gb775, 0, none⟩) (Kd.R_types HO_726002.out BK775.out (by decide)) (fun _ hk => hk.2) (.int .i64 t767)) (fun _ hk => hk.2) (.slice Ao129 t768.length co129)) (fun _ hk => hk.2) (.slice Ao130 t771.length co130)) (fun _ h_ => h_.1)))); (case side8 => exact (Kd.R_reads' HO_726002.out).2.1); rintro e w142 ⟨rfl, hb⟩; refine ⟨_, rfl, ?_⟩; have n0_ := Aside0.mk (Kd.R_below (by (with_reducible repeat (first | apply Kd.R_alloc | apply Kd.R_drewN | apply Kd.R_drew)); exact (Kd.R_mono (Kd.R_far (p := ⟨gb775, 2, none⟩) (Kd.R_far (p := ⟨gb775, 1, none⟩) (Kd.R_far (p := ⟨gb775, 0, none⟩) (Kd.R_types HO_726001.out BK775.out (by decide)) (fun _ hk => hk.2) (.int .i64 t767)) (fun _ hk => hk.2) (.slice Ao129 t768.length co129)) (fun _ hk => hk.2) (.slice Ao130 t771.length co130)) (fun _ h_ => h_.1))) hb); have n1_ := Aside0.mk (Kd.R_below (by (with_reducible repeat (first | apply Kd.R_alloc | apply Kd.R_drewN | apply Kd.R_drew)); exact (Kd.R_mono (Kd.R_far (p := ⟨gb775, 2, none⟩) (Kd.R_far (p := ⟨gb775, 1, none⟩) (Kd.R_far (p := ⟨gb775, 0, none⟩) (Kd.R_types HO_726002.out BK775.out (by decide)) (fun _ hk => hk.2) (.int .i64 t767)) (fun _ hk => hk.2) (.slice Ao129 t768.length co129)) (fun _ hk => hk.2) (.slice Ao130 t771.length co130)) (fun _ h_ => h_.1))) hb); have n2_ := Aside0.mk (Kd.R_below (by (with_reducible repeat (first | apply Kd.R_alloc | apply Kd.R_drewN | apply Kd.R_drew)); exact (Kd.R_mono (Kd.R_far (p := ⟨gb775, 2, none⟩) (Kd.R_far (p := ⟨gb775, 1, none⟩) (Kd.R_far (p := ⟨gb775, 0, none⟩) (Kd.R_types HO_734001.out BK775.out (by decide)) (fun _ hk => hk.2) (.int .i64 t767)) (fun _ hk => hk.2) (.slice Ao129 t768.length co129)) (fun _ hk => hk.2) (.slice Ao130 t771.length co130)) (fun _ h_ => h_.1))) hb); have n3_ := Aside0.mk (Kd.R_below (by (with_reducible repeat (first | apply Kd.R_alloc | apply Kd.R_drewN | apply Kd.R_drew)); exact (Kd.R_mono (Kd.R_far (p := ⟨gb775, 2, none⟩) (Kd.R_far (p := ⟨gb775, 1, none⟩) (Kd.R_far (p := ⟨gb775, 0, none⟩) (Kd.R_types HO_734002.out BK775.out (by decide)) (fun _ hk => hk.2) (.int .i64 t767)) (fun _ hk => hk.2) (.slice Ao129 t768.length co129)) (fun _ hk => hk.2) (.slice Ao130 t771.length co130)) (fun _ h_ => h_.1))) hb); have n4_ := Aside0.mk (Kd.R_below (by (with_reducible repeat (first | apply Kd.R_alloc | apply Kd.R_drewN | apply Kd.R_drew)); exact (Kd.R_mono (Kd.R_far (p := ⟨gb775, 2, none⟩) (Kd.R_far (p := ⟨gb775, 1, none⟩) (Kd.R_far (p := ⟨gb775, 0, none⟩) (Kd.R_types HO_743001.out BK775.out (by decide)) (fun _ hk => hk.2) (.int .i64 t767)) (fun _ hk => hk.2) (.slice Ao129 t768.length co129)) (fun _ hk => hk.2) (.slice Ao130 t771.length co130)) (fun _ h_ => h_.1))) hb); have n5_ := Aside0.mk (Kd.R_below (by (with_reducible repeat (first | apply Kd.R_alloc | apply Kd.R_drewN | apply Kd.R_drew)); exact (Kd.R_mono (Kd.R_far (p := ⟨gb775, 2, none⟩) (Kd.R_far (p := ⟨gb775, 1, none⟩) (Kd.R_far (p := ⟨gb775, 0, none⟩) (Kd.R_types HO_743002.out BK775.out (by decide)) (fun _ hk => hk.2) (.int .i64 t767)) (fun _ hk => hk.2) (.slice Ao129 t768.length co129)) (fun _ hk => hk.2) (.slice Ao130 t771.length co130)) (fun _ h_ => h_.1))) hb); have n6_ := Aside0.mk (Kd.R_below (by (with_reducible repeat (first | apply Kd.R_alloc | apply Kd.R_drewN | apply Kd.R_drew)); exact (Kd.R_mono (Kd.R_far (p := ⟨gb775, 2, none⟩) (Kd.R_far (p := ⟨gb775, 1, none⟩) (Kd.R_far (p := ⟨gb775, 0, none⟩) (Kd.R_types HO763.out BK775.out (by decide)) (fun _ hk => hk.2) (.int .i64 t767)) (fun _ hk => hk.2) (.slice Ao129 t768.length co129)) (fun _ hk => hk.2) (.slice Ao130 t771.length co130)) (fun _ h_ => h_.1))) hb); have n7_ := Aside0.mk (Kd.R_below (by (with_reducible repeat (first | apply Kd.R_alloc | apply Kd.R_drewN | apply Kd.R_drew)); exact (Kd.R_mono (Kd.R_far (p := ⟨gb775, 2, none⟩) (Kd.R_far (p := ⟨gb775, 1, none⟩) (Kd.R_far (p := ⟨gb775, 0, none⟩) (Kd.R_types HO766.out BK775.out (by decide)) (fun _ hk => hk.2) (.int .i64 t767)) (fun _ hk => hk.2) (.slice Ao129 t768.length co129)) (fun _ hk => hk.2) (.slice Ao130 t771.length co130)) (fun _ h_ => h_.1))) hb); have n8_ := Aside0.mk (Kd.R_below (by (with_reducible repeat (first | apply Kd.R_alloc | apply Kd.R_drewN | apply Kd.R_drew)); exact (Kd.R_mono (Kd.R_far (p := ⟨gb775, 2, none⟩) (Kd.R_far (p := ⟨gb775, 1, none⟩) (Kd.R_far (p := ⟨gb775, 0, none⟩) (Kd.R_types HO770.out BK775.out (by decide)) (fun _ hk => hk.2) (.int .i64 t767)) (fun _ hk => hk.2) (.slice Ao129 t768.length co129)) (fun _ hk => hk.2) (.slice Ao130 t771.length co130)) (fun _ h_ => h_.1))) hb); have n9_ := Aside0.mk (Kd.R_below (by (with_reducible repeat (first | apply Kd.R_alloc | apply Kd.R_drewN | apply Kd.R_drew)); exact (Kd.R_mono (Kd.R_far (p := ⟨gb775, 2, none⟩) (Kd.R_far (p := ⟨gb775, 1, none⟩) (Kd.R_far (p := ⟨gb775, 0, none⟩) (Kd.R_types HO773.out BK775.out (by decide)) (fun _ hk => hk.2) (.int .i64 t767)) (fun _ hk => hk.2) (.slice Ao129 t768.length co129)) (fun _ hk => hk.2) (.slice Ao130 t771.length co130)) (fun _ h_ => h_.1))) hb); have n10_ := Aside0.mk (blk_below (g := gb708) (o := .cells #[.int .i64 a0_0, .slice A0_1 l0_1.length c0_1, .slice A0_2 l0_2.length c0_2] 25 (0, 0)) (qF BK708.out) hb); have n11_ := Aside0.mk (blk_below (g := gb725) (o := .cells #[.int .i64 t717, .slice Ao23 t718.length co23, .slice Ao24 t721.length co24] 30 (0, 0)) (qF BK725.out) hb); have n12_ := Aside0.mk (blk_below (g := gb733) (o := .cells #[.int .i64 t726, .slice Ao31 t753.length co31, .slice Ao32 t754.length co32] 30 (0, 0)) (qF BK733.out) hb); have n13_ := Aside0.mk (blk_below (g := gb742) (o := .cells #[.int .i64 t734, .slice Ao39 t735.length co39, .slice Ao40 t738.length co40] 30 (0, 0)) (qF BK742.out) hb); have n14_ := Aside0.mk (blk_below (g := gb775) (o := .cells #[.int .i64 t767, .slice Ao129 t768.length co129, .slice Ao130 t771.length co130] 30 (0, 0)) (by (with_reducible repeat (first | refine blk_drewN ?_ _ | refine blk_drew ?_ | refine blk_alloc ?_ _)); refine blk_put (cs := #[.int .i64 t767, .slice Ao129 t768.length co129, .slice none 0 0]) ?_ 2 _ rfl; refine blk_put (cs := #[.int .i64 t767, .slice none 0 0, .slice none 0 0]) ?_ 1 _ rfl; refine blk_put (cs := #[.int .i64 0, .slice none 0 0, .slice none 0 0]) ?_ 0 _ rfl; exact qK BK775.out) hb); have n15_ := Aside0.mk (below_step (qB) hb); clear HO_726001; clear HO_726002; clear HO_734001; clear HO_734002; clear HO_743001; clear HO_743002; clear HO763; clear HO766; clear HO770; clear HO773; clear BK708; clear BK725; clear BK733; clear BK742; clear BK775; clear HB; have HO_726001 := n0_; have HO_726002 := n1_; have HO_734001 := n2_; have HO_734002 := n3_; have HO_743001 := n4_; have HO_743002 := n5_; have HO763 := n6_; have HO766 := n7_; have HO770 := n8_; have HO773 := n9_; have BK708 := n10_; have BK725 := n11_; have BK733 := n12_; have BK742 := n13_; have BK775 := n14_; have HB := n15_; clear n0_ n1_ n2_ n3_ n4_ n5_ n6_ n7_ n8_ n9_ n10_ n11_ n12_ n13_ n14_ n15_; (try clear hb); (try clear hb2); (try clear hk); (try clear hi)))
             go_meet
             case rel => exact ⟨_, ((t774 != t724)), qS, H', ⟨by have := HJ10.out; have := HJ63.out; first | omega | exact Nat.le_refl _⟩, ⟨by (try simp only [hl734001_63]); (try simp only [hl734002_63]); (with_reducible repeat (first | apply Kd.R_alloc | apply Kd.R_drewN | apply Kd.R_drew)); exact Kd.R_mono HO_726001.out (fun _ hk => ⟨hk.1.1.1, ⟨hk.1.1.2, hk.2⟩⟩)⟩, ⟨by (try simp only [hl734001_63]); (try simp only [hl734002_63]); (with_reducible repeat (first | apply Kd.R_alloc | apply Kd.R_drewN | apply Kd.R_drew)); exact Kd.R_mono HO_726002.out (fun _ hk => ⟨hk.1.1.1, ⟨hk.1.1.2, hk.2⟩⟩)⟩, ⟨by (try simp only [hl734001_63]); (try simp only [hl734002_63]); (with_reducible repeat (first | apply Kd.R_alloc | apply Kd.R_drewN | apply Kd.R_drew)); exact Kd.R_mono HO_734001.out (fun _ hk => ⟨hk.1.1.1, ⟨hk.1.1.2, hk.2⟩⟩)⟩, ⟨by (try simp only [hl734001_63]); (try simp only [hl734002_63]); (with_reducible repeat (first | apply Kd.R_alloc | apply Kd.R_drewN | apply Kd.R_drew)); exact Kd.R_mono HO_734002.out (fun _ hk => ⟨hk.1.1.1, ⟨hk.1.1.2, hk.2⟩⟩)⟩, ⟨by (try simp only [hl734001_63]); (try simp only [hl734002_63]); (with_reducible repeat (first | apply Kd.R_alloc | apply Kd.R_drewN | apply Kd.R_drew)); exact Kd.R_mono HO_743001.out (fun _ hk => ⟨hk.1.1.1, ⟨hk.1.1.2, hk.2⟩⟩)⟩, ⟨by (try simp only [hl734001_63]); (try simp only [hl734002_63]); (with_reducible repeat (first | apply Kd.R_alloc | apply Kd.R_drewN | apply Kd.R_drew)); exact Kd.R_mono HO_743002.out (fun _ hk => ⟨hk.1.1.1, ⟨hk.1.1.2, hk.2⟩⟩)⟩, ⟨by (try simp only [hl734001_63]); (try simp only [hl734002_63]); (with_reducible repeat (first | apply Kd.R_alloc | apply Kd.R_drewN | apply Kd.R_drew)); exact Kd.R_mono HO770.out (fun _ hk => ⟨hk.1.1.1.2, ⟨hk.1.1.2, hk.1.2⟩⟩)⟩, ⟨by (try simp only [hl734001_63]); (try simp only [hl734002_63]); (with_reducible repeat (first | apply Kd.R_alloc | apply Kd.R_drewN | apply Kd.R_drew)); exact Kd.R_mono HO773.out (fun _ hk => ⟨hk.1.1.1.2, ⟨hk.1.1.2, hk.1.2⟩⟩)⟩, ⟨by (try simp only [hl734001_63]); (try simp only [hl734002_63]); exact qK BK708.out⟩, ⟨by (try simp only [hl734001_63]); (try simp only [hl734002_63]); exact qK BK725.out⟩, ⟨by (try simp only [hl734001_63]); (try simp only [hl734002_63]); exact qK BK733.out⟩, ⟨by (try simp only [hl734001_63]); (try simp only [hl734002_63]); exact qK BK742.out⟩, ⟨by (try simp only [hl734001_63]); (try simp only [hl734002_63]); exact qK BK775.out⟩, ⟨qB⟩⟩
            ·replace c132 := Bool.eq_false_iff.mpr c132
             subst c132
             have H1 : (laws_FnExactPruneCircuit.j2 kj63 t756 true t734 t757 t758) = some true := by rw [if_neg (show ¬ (false = true) by decide)] at H; exact H
             exact absurd H1 (by cases kj63 <;> simp [laws_FnExactPruneCircuit.j2])
           case rest =>
            clear HC108
            try clear c1
            try clear c2
            try clear p2
            try clear c3
            try clear c3b0
            try clear c4
            try clear c5
            try clear c6
            try clear c7
            try clear c8
            try clear c9
            try clear c10
            try clear c11
            try clear c12
            try clear c13
            try clear c14
            try clear c15
            try clear c20
            try clear c21
            try clear c28
            try clear c29
            try clear c30
            try clear c31
            try clear c32
            try clear c35
            try clear c36
            try clear c37
            try clear c42
            try clear c43
            try clear c44
            try clear c45
            try clear c47
            try clear c48
            try clear c51
            try clear c52
            try clear c53
            try clear c55
            try clear c56
            try clear c59
            try clear c62
            try clear c70
            try clear c71
            try clear c72
            try clear c75
            try clear c75b0
            try clear c77
            try clear c78
            try clear c79
            try clear c80
            try clear c82
            try clear c83
            try clear c86
            try clear c87
            try clear c88
            try clear c90
            try clear c91
            try clear c94
            try clear c97
            try clear c97b0
            try clear c98
            try clear c99
            try clear c100
            try clear c105
            try clear c105b0
            try clear c105b1
            try clear c109
            try clear c110
            try clear c111
            try clear c116
            try clear c117
            try clear c124
            try clear c125
            try clear c126
            try clear c127
            try clear c132
            try clear c133
            try clear c134
            try clear c135
            try clear c136
            try clear c138
            try clear c139
            try clear c140
            try clear c143
            try clear c144
            try clear c145
            try clear c146
            try clear c148
            try clear c149
            try clear c150
            try clear hcz101_0
            try clear hcz101_1
            try clear hcz101_2
            try clear hcz103_0
            try clear hcz103_1
            try clear hcz103_2
            try clear hcz112_0
            try clear hcz112_1
            try clear hcz112_2
            try clear hcz114_0
            try clear hcz114_1
            try clear hcz114_2
            try clear hcz118_0
            try clear hcz118_1
            try clear hcz118_2
            try clear hcz128_0
            try clear hcz128_1
            try clear hcz128_2
            try clear hcz137_0
            try clear hcz137_1
            try clear hcz137_2
            try clear hcz13_0
            try clear hcz13_1
            try clear hcz13_2
            try clear hcz141_0
            try clear hcz141_1
            try clear hcz141_2
            try clear hcz147_0
            try clear hcz147_1
            try clear hcz147_2
            try clear hcz151_0
            try clear hcz151_1
            try clear hcz151_2
            try clear hcz15_0
            try clear hcz15_1
            try clear hcz15_2
            try clear hcz22_0
            try clear hcz22_1
            try clear hcz22_2
            try clear hcz25_0
            try clear hcz25_1
            try clear hcz25_2
            try clear hcz30_0
            try clear hcz30_1
            try clear hcz30_2
            try clear hcz38_0
            try clear hcz38_1
            try clear hcz38_2
            try clear hcz46_0
            try clear hcz46_1
            try clear hcz46_2
            try clear hcz49_0
            try clear hcz49_1
            try clear hcz49_2
            try clear hcz54_0
            try clear hcz54_1
            try clear hcz54_2
            try clear hcz57_0
            try clear hcz57_1
            try clear hcz57_2
            try clear hcz5_0
            try clear hcz5_1
            try clear hcz5_2
            try clear hcz73_0
            try clear hcz73_1
            try clear hcz73_2
            try clear hcz81_0
            try clear hcz81_1
            try clear hcz81_2
            try clear hcz84_0
            try clear hcz84_1
            try clear hcz84_2
            try clear hcz89_0
            try clear hcz89_1
            try clear hcz89_2
            try clear hcz92_0
            try clear hcz92_1
            try clear hcz92_2
            try clear hfz101_0
            try clear hfz101_1
            try clear hfz101_2
            try clear hfz103_0
            try clear hfz103_1
            try clear hfz103_2
            try clear hfz112_0
            try clear hfz112_1
            try clear hfz112_2
            try clear hfz114_0
            try clear hfz114_1
            try clear hfz114_2
            try clear hfz118_0
            try clear hfz118_1
            try clear hfz118_2
            try clear hfz128_0
            try clear hfz128_1
            try clear hfz128_2
            try clear hfz137_0
            try clear hfz137_1
            try clear hfz137_2
            try clear hfz13_0
            try clear hfz13_1
            try clear hfz13_2
            try clear hfz141_0
            try clear hfz141_1
            try clear hfz141_2
            try clear hfz147_0
            try clear hfz147_1
            try clear hfz147_2
            try clear hfz151_0
            try clear hfz151_1
            try clear hfz151_2
            try clear hfz15_0
            try clear hfz15_1
            try clear hfz15_2
            try clear hfz22_0
            try clear hfz22_1
            try clear hfz22_2
            try clear hfz25_0
            try clear hfz25_1
            try clear hfz25_2
            try clear hfz30_0
            try clear hfz30_1
            try clear hfz30_2
            try clear hfz38_0
            try clear hfz38_1
            try clear hfz38_2
            try clear hfz46_0
            try clear hfz46_1
            try clear hfz46_2
            try clear hfz49_0
            try clear hfz49_1
            try clear hfz49_2
            try clear hfz54_0
            try clear hfz54_1
            try clear hfz54_2
            try clear hfz57_0
            try clear hfz57_1
            try clear hfz57_2
            try clear hfz5_0
            try clear hfz5_1
            try clear hfz5_2
            try clear hfz73_0
            try clear hfz73_1
            try clear hfz73_2
            try clear hfz81_0
            try clear hfz81_1
            try clear hfz81_2
            try clear hfz84_0
            try clear hfz84_1
            try clear hfz84_2
            try clear hfz89_0
            try clear hfz89_1
            try clear hfz89_2
            try clear hfz92_0
            try clear hfz92_1
            try clear hfz92_2
            try clear p2
            obtain ⟨kq, x87_107, rfl, HA, HJ107, HO_726001, HO_726002, HO_734001, HO_734002, HO_743001, HO_743002, HO_776001, HO_776002, BK708, BK725, BK733, BK742, BK775, HB⟩ := hcut
            have hl743001_107 := (Kd.R_reads' HO_743001.out).1
            rw [hl743001_107] at HO_743001
            (try simp only [hl743001_107])
            (try simp only [hl743001_107] at BK708)
            (try simp only [hl743001_107] at BK725)
            (try simp only [hl743001_107] at BK733)
            (try simp only [hl743001_107] at BK742)
            (try simp only [hl743001_107] at BK775)
            (try simp only [hl743001_107] at HO_726001)
            (try simp only [hl743001_107] at HO_726002)
            (try simp only [hl743001_107] at HO_734001)
            (try simp only [hl743001_107] at HO_734002)
            (try simp only [hl743001_107] at HO_743002)
            (try simp only [hl743001_107] at HO_776001)
            (try simp only [hl743001_107] at HO_776002)
            have hl743002_107 := (Kd.R_reads' HO_743002.out).1
            rw [hl743002_107] at HO_743002
            (try simp only [hl743002_107])
            (try simp only [hl743002_107] at BK708)
            (try simp only [hl743002_107] at BK725)
            (try simp only [hl743002_107] at BK733)
            (try simp only [hl743002_107] at BK742)
            (try simp only [hl743002_107] at BK775)
            (try simp only [hl743002_107] at HO_726001)
            (try simp only [hl743002_107] at HO_726002)
            (try simp only [hl743002_107] at HO_734001)
            (try simp only [hl743002_107] at HO_734002)
            (try simp only [hl743002_107] at HO_743001)
            (try simp only [hl743002_107] at HO_776001)
            (try simp only [hl743002_107] at HO_776002)
            cases kq with
            | zero => exact absurd HA.out (by simp [laws_FnExactPruneCircuit.j2])
            | succ kj107 =>
             have H := HA.out
             clear HA
             simp only [laws_FnExactPruneCircuit.j2] at H
             by_cases c153 : x87_107 = true
             ·subst c153
              have H1 : (some false) = some true := by rw [if_pos rfl] at H; exact H
              exact absurd H1 (by simp)
             ·replace c153 := Bool.eq_false_iff.mpr c153
              subst c153
              have H1 : ((laws_heldCircuit.f kj107 t734 t757 t758 1).bind fun t777 => (if t777 < 0 then (some false) else (if t777 = t756 then (some true) else (some false)))) = some true := by rw [if_neg (show ¬ (false = true) by decide)] at H; exact H
              clear H
              have H := H1
              clear H1
              replace H := Option.bind_eq_some_iff.mp H
              obtain ⟨t777, A1540, H⟩ := H
              replace H : (if t777 < 0 then (some false) else (if t777 = t756 then (some true) else (some false))) = some true := H
              have A154 := Aside0.mk A1540
              clear A1540
              by_cases c155 : t777 < 0
              ·rw [if_pos c155] at H
               exact absurd H (by simp)
              ·rw [if_neg c155] at H
               have c155b0 : decide (t777 < 0) = false := decide_eq_false c155
               clear c155
               by_cases c162 : t777 = t756
               ·rw [if_pos c162] at H
                have c162b0 : (t777 == t756) = true := beq_iff_eq.mpr c162
                have c162b1 : (t777 != t756) = false := bne_eq_false_iff_eq.mpr c162
                clear c162
                have hnb163 := NB742_708.out
                have hnc163 := NB708_742.out
                have hnb164 := NB742_725.out
                have hnc164 := NB725_742.out
                have hnb165 := NB742_733.out
                have hnc165 := NB733_742.out
                have hnb166 := NB742_775.out
                have hnc166 := NB775_742.out
                have hcz167_0 : wc.cell? ⟨gb742, 0, none⟩ = some (.int .i64 t734) := (blk_cell BK742.out 0).trans rfl
                have hcz167_1 : wc.cell? ⟨gb742, 1, none⟩ = some (.slice Ao39 t757.length co39) := (blk_cell BK742.out 1).trans rfl
                have hcz167_2 : wc.cell? ⟨gb742, 2, none⟩ = some (.slice Ao40 t758.length co40) := (blk_cell BK742.out 2).trans rfl
                have hfz167_0 := blk_frozen BK742.out 0
                have hfz167_1 := blk_frozen BK742.out 1
                have hfz167_2 := blk_frozen BK742.out 2
                go_wp2_with (first | ((with_reducible refine gate_callee (f := 32) rfl ?_); refine goesL_ (some 90) rfl rfl Try.func32 (by kernel_rfl) rfl #[.agg #[.int .i64 t734, .slice Ao39 t757.length co39, .slice Ao40 t758.length co40], .int .i64 1] rfl qG ?_; (with_reducible refine (laws_heldCircuit.calls kj107 t734 _ _ t757 _ _ t758 1 t777 _ ?side1 ?side2 ?side3 ?side4 A154.out).mono ?_); (case side1 => repeat (first | exact (Kd.R_reads' HO_743001.out).2.2 | (with_reducible refine Kd.C_alloc ?_ _) | (with_reducible refine Kd.C_drewN ?_ _) | (with_reducible refine Kd.C_drew ?_))); (case side2 => exact (Kd.R_reads' HO_743001.out).2.1); (case side3 => repeat (first | exact (Kd.R_reads' HO_743002.out).2.2 | (with_reducible refine Kd.C_alloc ?_ _) | (with_reducible refine Kd.C_drewN ?_ _) | (with_reducible refine Kd.C_drew ?_))); (case side4 => exact (Kd.R_reads' HO_743002.out).2.1); rintro e w168 ⟨rfl, hb⟩; refine ⟨_, rfl, ?_⟩; have n0_ := Aside0.mk (Kd.R_below (qR HO_726001.out) hb); have n1_ := Aside0.mk (Kd.R_below (qR HO_726002.out) hb); have n2_ := Aside0.mk (Kd.R_below (qR HO_734001.out) hb); have n3_ := Aside0.mk (Kd.R_below (qR HO_734002.out) hb); have n4_ := Aside0.mk (Kd.R_below (qR HO_743001.out) hb); have n5_ := Aside0.mk (Kd.R_below (qR HO_743002.out) hb); have n6_ := Aside0.mk (Kd.R_below (qR HO_776001.out) hb); have n7_ := Aside0.mk (Kd.R_below (qR HO_776002.out) hb); have n8_ := Aside0.mk (blk_below (g := gb708) (o := .cells #[.int .i64 a0_0, .slice A0_1 l0_1.length c0_1, .slice A0_2 l0_2.length c0_2] 25 (0, 0)) (qK BK708.out) hb); have n9_ := Aside0.mk (blk_below (g := gb725) (o := .cells #[.int .i64 t717, .slice Ao23 t718.length co23, .slice Ao24 t721.length co24] 30 (0, 0)) (qK BK725.out) hb); have n10_ := Aside0.mk (blk_below (g := gb733) (o := .cells #[.int .i64 t726, .slice Ao31 t753.length co31, .slice Ao32 t754.length co32] 30 (0, 0)) (qK BK733.out) hb); have n11_ := Aside0.mk (blk_below (g := gb742) (o := .cells #[.int .i64 t734, .slice Ao39 t757.length co39, .slice Ao40 t758.length co40] 30 (0, 0)) (qK BK742.out) hb); have n12_ := Aside0.mk (blk_below (g := gb775) (o := .cells #[.int .i64 t767, .slice Ao129 t768.length co129, .slice Ao130 t771.length co130] 30 (0, 0)) (qK BK775.out) hb); have n13_ := Aside0.mk (below_step (qB) hb); clear HO_726001; clear HO_726002; clear HO_734001; clear HO_734002; clear HO_743001; clear HO_743002; clear HO_776001; clear HO_776002; clear BK708; clear BK725; clear BK733; clear BK742; clear BK775; clear HB; have HO_726001 := n0_; have HO_726002 := n1_; have HO_734001 := n2_; have HO_734002 := n3_; have HO_743001 := n4_; have HO_743002 := n5_; have HO_776001 := n6_; have HO_776002 := n7_; have BK708 := n8_; have BK725 := n9_; have BK733 := n10_; have BK742 := n11_; have BK775 := n12_; have HB := n13_; clear n0_ n1_ n2_ n3_ n4_ n5_ n6_ n7_ n8_ n9_ n10_ n11_ n12_ n13_; (try clear hb); (try clear hb2); (try clear hk); (try clear hi)))
                go_ret
                exact ⟨qE, qB⟩
               ·rw [if_neg c162] at H
                exact absurd H (by simp)
          ·rw [if_neg c105] at H
           exact absurd H (by simp)
     ·replace c62 := Bool.eq_false_iff.mpr c62
      subst c62
      have H1 : (some false) = some true := by rw [if_neg (show ¬ (false = true) by decide)] at H; exact H
      exact absurd H1 (by simp)
/-- THE PURE STATEMENT of laws_FnExactPruneCircuit. -/
def laws_FnExactPruneCircuit.Pure : Prop := ∀ (a0_0 : Int) (l0_1 : List (S82)) (l0_2 : List Int), (Lit.int .i64 a0_0).wf = true → ((l0_1).length ≤ maxLen ∧ ∀ y ∈ l0_1, wf82 y) → ((l0_2).length ≤ maxLen ∧ ∀ y ∈ l0_2, (Lit.int .i64 y).wf = true) → ∃ k, laws_FnExactPruneCircuit.f k a0_0 l0_1 l0_2 = some true
theorem laws_FnExactPruneCircuit.walk (P : laws_FnExactPruneCircuit.Pure) (a0_0 : Int) (A0_1 : Option Addr) (c0_1 : Nat) (l0_1 : List (S82)) (A0_2 : Option Addr) (c0_2 : Nat) (l0_2 : List Int) (w : World) (hr0_1 : Kd.C k82 w A0_1 l0_1.length l0_1) (hc0_1 : l0_1.length ≤ c0_1) (hr0_2 : Kd.C (Kd.int .i64) w A0_2 l0_2.length l0_2) (hc0_2 : l0_2.length ≤ c0_2) (w0_0 : (Lit.int .i64 a0_0).wf = true) (w0_1 : ((l0_1).length ≤ maxLen ∧ ∀ y ∈ l0_1, wf82 y)) (w0_2 : ((l0_2).length ≤ maxLen ∧ ∀ y ∈ l0_2, (Lit.int .i64 y).wf = true)) :
  Calls Try.prog 7 #[.agg #[.int .i64 a0_0, .slice A0_1 l0_1.length c0_1, .slice A0_2 l0_2.length c0_2]] w fun e w' => e = .returned (.bool true) ∧ Below w.heap.size w w' := by
 obtain ⟨k, h⟩ := P a0_0 l0_1 l0_2 w0_0 w0_1 w0_2
 refine (laws_FnExactPruneCircuit.calls k a0_0 A0_1 c0_1 l0_1 A0_2 c0_2 l0_2 true w hr0_1 hc0_1 hr0_2 hc0_2 h).mono ?_
 rintro e w' ⟨rfl, hd⟩
 exact ⟨rfl, hd⟩

end Go.Proofs.Ytimkjhdopncimaa.X
