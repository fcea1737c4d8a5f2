/- Go functions as Lean functions, each with the proof that its call comes to just its answer. Conditions: the arguments are of their kinds. -/
import Derived.Test.YtimkjhdopncimaaX0
import Derived.Test.YtimkjhdopncimaaX1
import Derived.Test.YtimkjhdopncimaaX5
import Derived.Test.YtimkjhdopncimaaX11
import Derived.Test.YtimkjhdopncimaaX13
import Derived.Test.YtimkjhdopncimaaX25
import Derived.Test.YtimkjhdopncimaaX28
import Derived.Test.YtimkjhdopncimaaXO
namespace Go.Proofs.Ytimkjhdopncimaa.X
open Go.RowKit Go.Proofs.YtimkjhdopncimaaW.PrintWords Go.Proofs.YtimkjhdopncimaaW.PrintLast Go.Proofs.YtimkjhdopncimaaW.PrintMore
attribute [local go_sem] max2_int min2_int max_two min_two max_three min_three max_four min_four   -- for this text's walks alone
set_option linter.unusedVariables false
set_option linter.unusedSimpArgs false

/-! ### laws_FnExactConeOf: function 6 -/
mutual
def laws_FnExactConeOf.j0 : Nat → Int → List Int → Bool → List Int → Bool → Bool → Int → List (S82) → List Int → Int → List (S59) → List Int → Option (Bool)
 | 0, _, _, _, _, _, _, _, _, _, _, _, _ => none
 | k + 1, x1, x6, x7, x9, x10, x44, x563000, x563001, x563002, x583000, x583001, x583002 => if x44 = true then (some false) else ((laws_toCircuit.f k x563000 x563001 x563002).bind fun bt588 => ((laws_eqCircuit.f k x583000 x583001 x583002 bt588.1 bt588.2.1 bt588.2.2).bind fun t595 => (if t595 = true then ((laws_markCircuit.f k x583000 x583001 x583002 1).bind fun bt596 => (if bt596.1 < 0 then (laws_FnExactConeOf.j1 k x1 x6 x7 x9 true x563000 x563001 x563002) else ((laws_eqIntS.f k x9 x6).bind fun t599 => (if t599 = true then (laws_FnExactConeOf.j1 k x1 x6 x7 x9 (x10 != x7) x563000 x563001 x563002) else (laws_FnExactConeOf.j1 k x1 x6 x7 x9 true x563000 x563001 x563002))))) else (some false))))
def laws_FnExactConeOf.j1 : Nat → Int → List Int → Bool → List Int → Bool → Int → List (S82) → List Int → Option (Bool)
 | 0, _, _, _, _, _, _, _, _ => none
 | k + 1, x1, x6, x7, x9, x65, x563000, x563001, x563002 => if x65 = true then (some false) else ((laws_markIntS.f k x9 1).bind fun bt600 => ((laws_heldIntS.f k bt600.2 1).bind fun t602 => (if t602 < 0 then (some false) else (if t602 = bt600.1 then ((laws_toCircuit.f k x563000 x563001 x563002).bind fun bt603 => ((impl_ConeOf.f k bt603.1 bt603.2.1 bt603.2.2 x1).bind fun bt610 => ((laws_eqIntS.f k bt610.1 x6).bind fun t614 => (if t614 = true then (laws_FnExactConeOf.j2 k bt600.2 bt600.1 (bt610.2 != x7)) else (laws_FnExactConeOf.j2 k bt600.2 bt600.1 true))))) else (some false)))))
def laws_FnExactConeOf.j2 : Nat → List Int → Int → Bool → Option (Bool)
 | 0, _, _, _ => none
 | k + 1, x9, x12, x92 => if x92 = true then (some false) else ((laws_heldIntS.f k x9 1).bind fun t615 => (if t615 < 0 then (some false) else (if t615 = x12 then (some true) else (some false))))
end
def laws_FnExactConeOf.f (k : Nat) (a0_0 : Int) (l0_1 : List (S82)) (l0_2 : List Int) (a1 : Int) : Option (Bool) := (laws_szCircuit.f a0_0 l0_1 l0_2 1048576).bind fun t563 => (if t563 < 0 then (some true) else ((laws_toCircuit.f k a0_0 l0_1 l0_2).bind fun bt564 => ((spec_ConeOf.f k bt564.1 bt564.2.1 bt564.2.2 a1).bind fun bt571 => ((laws_toCircuit.f k a0_0 l0_1 l0_2).bind fun bt575 => ((impl_ConeOf.f k bt575.1 bt575.2.1 bt575.2.2 a1).bind fun bt583 => ((laws_eqIntS.f k bt583.1 bt571.1).bind fun t587 => (if t587 = true then (laws_FnExactConeOf.j0 k a1 bt571.1 bt571.2 bt583.1 bt583.2 (bt583.2 != bt571.2) a0_0 l0_1 l0_2 bt575.1 bt575.2.1 bt575.2.2) else (laws_FnExactConeOf.j0 k a1 bt571.1 bt571.2 bt583.1 bt583.2 true a0_0 l0_1 l0_2 bt575.1 bt575.2.1 bt575.2.2))))))))
theorem laws_FnExactConeOf.mono_l : ∀ k, (∀ y0 y1 y2 y3 y4 y5 y6 y7 y8 y9 y10 y11, LeO (laws_FnExactConeOf.j0 k y0 y1 y2 y3 y4 y5 y6 y7 y8 y9 y10 y11) (laws_FnExactConeOf.j0 (k + 1) y0 y1 y2 y3 y4 y5 y6 y7 y8 y9 y10 y11)) ∧ (∀ y0 y1 y2 y3 y4 y5 y6 y7, LeO (laws_FnExactConeOf.j1 k y0 y1 y2 y3 y4 y5 y6 y7) (laws_FnExactConeOf.j1 (k + 1) y0 y1 y2 y3 y4 y5 y6 y7)) ∧ (∀ y0 y1 y2, LeO (laws_FnExactConeOf.j2 k y0 y1 y2) (laws_FnExactConeOf.j2 (k + 1) y0 y1 y2))
 | 0 => ⟨fun _ _ _ _ _ _ _ _ _ _ _ _ r h => by simp [laws_FnExactConeOf.j0] at h, fun _ _ _ _ _ _ _ _ r h => by simp [laws_FnExactConeOf.j1] at h, fun _ _ _ r h => by simp [laws_FnExactConeOf.j2] at h⟩
 | k + 1 => by
  obtain ⟨ih0, ih1, ih2⟩ := laws_FnExactConeOf.mono_l k
  refine ⟨?_, ?_, ?_⟩
  ·intro y0 y1 y2 y3 y4 y5 y6 y7 y8 y9 y10 y11
   unfold laws_FnExactConeOf.j0
   repeat' first
   | (with_reducible exact ih0 _ _ _ _ _ _ _ _ _ _ _ _)
   | (with_reducible exact ih1 _ _ _ _ _ _ _ _)
   | (with_reducible exact ih2 _ _ _)
   | (with_reducible exact impl_ConeOf.mono _ _ _ _ _)
   | (with_reducible exact laws_eqCircuit.mono _ _ _ _ _ _ _)
   | (with_reducible exact laws_eqIntS.mono _ _ _)
   | (with_reducible exact laws_heldIntS.mono _ _ _)
   | (with_reducible exact laws_markCircuit.mono _ _ _ _ _)
   | (with_reducible exact laws_markIntS.mono _ _ _)
   | (with_reducible exact laws_toCircuit.mono _ _ _ _)
   | (with_reducible exact spec_ConeOf.mono _ _ _ _ _)
   | (with_reducible first | exact LeO.refl _ | exact LeO.none _ | refine LeO.ite ?_ ?_ | refine LeO.bind ?_ (fun _ => ?_))
   | exact ih0 _ _ _ _ _ _ _ _ _ _ _ _
   | exact ih1 _ _ _ _ _ _ _ _
   | exact ih2 _ _ _
   | exact impl_ConeOf.mono _ _ _ _ _
   | exact laws_eqCircuit.mono _ _ _ _ _ _ _
   | exact laws_eqIntS.mono _ _ _
   | exact laws_heldIntS.mono _ _ _
   | exact laws_markCircuit.mono _ _ _ _ _
   | exact laws_markIntS.mono _ _ _
   | exact laws_toCircuit.mono _ _ _ _
   | exact spec_ConeOf.mono _ _ _ _ _
   | exact LeO.none _ | refine LeO.ite ?_ ?_ | refine LeO.bind ?_ (fun _ => ?_)
  ·intro y0 y1 y2 y3 y4 y5 y6 y7
   unfold laws_FnExactConeOf.j1
   repeat' first
   | (with_reducible exact ih0 _ _ _ _ _ _ _ _ _ _ _ _)
   | (with_reducible exact ih1 _ _ _ _ _ _ _ _)
   | (with_reducible exact ih2 _ _ _)
   | (with_reducible exact impl_ConeOf.mono _ _ _ _ _)
   | (with_reducible exact laws_eqCircuit.mono _ _ _ _ _ _ _)
   | (with_reducible exact laws_eqIntS.mono _ _ _)
   | (with_reducible exact laws_heldIntS.mono _ _ _)
   | (with_reducible exact laws_markCircuit.mono _ _ _ _ _)
   | (with_reducible exact laws_markIntS.mono _ _ _)
   | (with_reducible exact laws_toCircuit.mono _ _ _ _)
   | (with_reducible exact spec_ConeOf.mono _ _ _ _ _)
   | (with_reducible first | exact LeO.refl _ | exact LeO.none _ | refine LeO.ite ?_ ?_ | refine LeO.bind ?_ (fun _ => ?_))
   | exact ih0 _ _ _ _ _ _ _ _ _ _ _ _
   | exact ih1 _ _ _ _ _ _ _ _
   | exact ih2 _ _ _
   | exact impl_ConeOf.mono _ _ _ _ _
   | exact laws_eqCircuit.mono _ _ _ _ _ _ _
   | exact laws_eqIntS.mono _ _ _
   | exact laws_heldIntS.mono _ _ _
   | exact laws_markCircuit.mono _ _ _ _ _
   | exact laws_markIntS.mono _ _ _
   | exact laws_toCircuit.mono _ _ _ _
   | exact spec_ConeOf.mono _ _ _ _ _
   | exact LeO.none _ | refine LeO.ite ?_ ?_ | refine LeO.bind ?_ (fun _ => ?_)
  ·intro y0 y1 y2
   unfold laws_FnExactConeOf.j2
   repeat' first
   | (with_reducible exact ih0 _ _ _ _ _ _ _ _ _ _ _ _)
   | (with_reducible exact ih1 _ _ _ _ _ _ _ _)
   | (with_reducible exact ih2 _ _ _)
   | (with_reducible exact impl_ConeOf.mono _ _ _ _ _)
   | (with_reducible exact laws_eqCircuit.mono _ _ _ _ _ _ _)
   | (with_reducible exact laws_eqIntS.mono _ _ _)
   | (with_reducible exact laws_heldIntS.mono _ _ _)
   | (with_reducible exact laws_markCircuit.mono _ _ _ _ _)
   | (with_reducible exact laws_markIntS.mono _ _ _)
   | (with_reducible exact laws_toCircuit.mono _ _ _ _)
   | (with_reducible exact spec_ConeOf.mono _ _ _ _ _)
   | (with_reducible first | exact LeO.refl _ | exact LeO.none _ | refine LeO.ite ?_ ?_ | refine LeO.bind ?_ (fun _ => ?_))
   | exact ih0 _ _ _ _ _ _ _ _ _ _ _ _
   | exact ih1 _ _ _ _ _ _ _ _
   | exact ih2 _ _ _
   | exact impl_ConeOf.mono _ _ _ _ _
   | exact laws_eqCircuit.mono _ _ _ _ _ _ _
   | exact laws_eqIntS.mono _ _ _
   | exact laws_heldIntS.mono _ _ _
   | exact laws_markCircuit.mono _ _ _ _ _
   | exact laws_markIntS.mono _ _ _
   | exact laws_toCircuit.mono _ _ _ _
   | exact spec_ConeOf.mono _ _ _ _ _
   | exact LeO.none _ | refine LeO.ite ?_ ?_ | refine LeO.bind ?_ (fun _ => ?_)
theorem laws_FnExactConeOf.mono : ∀ a0 a1 a2 a3 k, LeO (laws_FnExactConeOf.f k a0 a1 a2 a3) (laws_FnExactConeOf.f (k + 1) a0 a1 a2 a3) := by
 intro a0 a1 a2 a3 k
 obtain ⟨ih0, ih1, ih2⟩ := laws_FnExactConeOf.mono_l k
 unfold laws_FnExactConeOf.f
 repeat' first
   | (with_reducible exact ih0 _ _ _ _ _ _ _ _ _ _ _ _)
   | (with_reducible exact ih1 _ _ _ _ _ _ _ _)
   | (with_reducible exact ih2 _ _ _)
   | (with_reducible exact impl_ConeOf.mono _ _ _ _ _)
   | (with_reducible exact laws_eqCircuit.mono _ _ _ _ _ _ _)
   | (with_reducible exact laws_eqIntS.mono _ _ _)
   | (with_reducible exact laws_heldIntS.mono _ _ _)
   | (with_reducible exact laws_markCircuit.mono _ _ _ _ _)
   | (with_reducible exact laws_markIntS.mono _ _ _)
   | (with_reducible exact laws_toCircuit.mono _ _ _ _)
   | (with_reducible exact spec_ConeOf.mono _ _ _ _ _)
   | (with_reducible first | exact LeO.refl _ | exact LeO.none _ | refine LeO.ite ?_ ?_ | refine LeO.bind ?_ (fun _ => ?_))
   | exact ih0 _ _ _ _ _ _ _ _ _ _ _ _
   | exact ih1 _ _ _ _ _ _ _ _
   | exact ih2 _ _ _
   | exact impl_ConeOf.mono _ _ _ _ _
   | exact laws_eqCircuit.mono _ _ _ _ _ _ _
   | exact laws_eqIntS.mono _ _ _
   | exact laws_heldIntS.mono _ _ _
   | exact laws_markCircuit.mono _ _ _ _ _
   | exact laws_markIntS.mono _ _ _
   | exact laws_toCircuit.mono _ _ _ _
   | exact spec_ConeOf.mono _ _ _ _ _
   | exact LeO.none _ | refine LeO.ite ?_ ?_ | refine LeO.bind ?_ (fun _ => ?_)
set_option maxHeartbeats 8000000 in
set_option maxRecDepth 100000 in
theorem laws_FnExactConeOf.calls (k : Nat) (a0_0 : Int) (A0_1 : Option Addr) (c0_1 : Nat) (l0_1 : List (S82)) (A0_2 : Option Addr) (c0_2 : Nat) (l0_2 : List Int) (a1 : Int) (r : Bool) (w : World) (hr0_1 : Kd.C k82 w A0_1 l0_1.length l0_1) (hc0_1 : l0_1.length ≤ c0_1) (hr0_2 : Kd.C (Kd.int .i64) w A0_2 l0_2.length l0_2) (hc0_2 : l0_2.length ≤ c0_2) (h : laws_FnExactConeOf.f k a0_0 l0_1 l0_2 a1 = some true) :
  Calls Try.prog 6 #[.agg #[.int .i64 a0_0, .slice A0_1 l0_1.length c0_1, .slice A0_2 l0_2.length c0_2], .int .i64 a1] w fun e w' => e = .returned (.bool true) ∧ Below w.heap.size w w' := by
 have hu25 := Try.underlying25
 have hu30 := Try.underlying30
 have HR0_1 := Aside0.mk hr0_1
 have HC0_1 := Aside0.mk hc0_1
 clear hr0_1 hc0_1
 have HR0_2 := Aside0.mk hr0_2
 have HC0_2 := Aside0.mk hc0_2
 clear hr0_2 hc0_2
 have HB := Aside0.mk (Below.refl w.heap.size w)
 have H : ((laws_szCircuit.f a0_0 l0_1 l0_2 1048576).bind fun t563 => (if t563 < 0 then (some true) else ((laws_toCircuit.f k a0_0 l0_1 l0_2).bind fun bt564 => ((spec_ConeOf.f k bt564.1 bt564.2.1 bt564.2.2 a1).bind fun bt571 => ((laws_toCircuit.f k a0_0 l0_1 l0_2).bind fun bt575 => ((impl_ConeOf.f k bt575.1 bt575.2.1 bt575.2.2 a1).bind fun bt583 => ((laws_eqIntS.f k bt583.1 bt571.1).bind fun t587 => (if t587 = true then (laws_FnExactConeOf.j0 k a1 bt571.1 bt571.2 bt583.1 bt583.2 (bt583.2 != bt571.2) a0_0 l0_1 l0_2 bt575.1 bt575.2.1 bt575.2.2) else (laws_FnExactConeOf.j0 k a1 bt571.1 bt571.2 bt583.1 bt583.2 true a0_0 l0_1 l0_2 bt575.1 bt575.2.1 bt575.2.2))))))))) = some true := h
 clear h
 replace H := Option.bind_eq_some_iff.mp H
 obtain ⟨t563, A30, H⟩ := H
 replace H : (if t563 < 0 then (some true) else ((laws_toCircuit.f k a0_0 l0_1 l0_2).bind fun bt564 => ((spec_ConeOf.f k bt564.1 bt564.2.1 bt564.2.2 a1).bind fun bt571 => ((laws_toCircuit.f k a0_0 l0_1 l0_2).bind fun bt575 => ((impl_ConeOf.f k bt575.1 bt575.2.1 bt575.2.2 a1).bind fun bt583 => ((laws_eqIntS.f k bt583.1 bt571.1).bind fun t587 => (if t587 = true then (laws_FnExactConeOf.j0 k a1 bt571.1 bt571.2 bt583.1 bt583.2 (bt583.2 != bt571.2) a0_0 l0_1 l0_2 bt575.1 bt575.2.1 bt575.2.2) else (laws_FnExactConeOf.j0 k a1 bt571.1 bt571.2 bt583.1 bt583.2 true a0_0 l0_1 l0_2 bt575.1 bt575.2.1 bt575.2.2)))))))) = some true := H
 have A3 := Aside0.mk A30
 clear A30
 by_cases c4 : t563 < 0
 ·rw [if_pos c4] at H
  have c4b0 : decide (t563 < 0) = true := decide_eq_true c4
  clear c4
  go_enter Try.func6, Try.ntmps6
  go_wp2_with (first | ((with_reducible refine gate_dst (N := 2) rfl ?_); refine box_event ?hg (N := 2) ?hd (cs := #[.int .i64 a0_0, .slice A0_1 l0_1.length c0_1, .slice A0_2 l0_2.length c0_2]) (t := 25) ?hr ?_; (case hd => rfl); (case hg => rfl); (case hr => first | (go_simp; done) | (go_simp; rfl)); intro gb562 hg w5 hbox hb; have n0_ := Aside0.mk (below_step (qB) hb); have n1_ := Aside0.mk (hbox); have n2_ := Aside0.mk ((by rw [hg]; exact (below_size (qB)) : w.heap.size ≤ gb562)); have n3_ := Aside0.mk ((by rw [hg]; exact (below_size (qB)) : w.heap.size ≤ gb562)); clear HB; have HB := n0_; have BK562 := n1_; have GW562 := n2_; have GE562 := n3_; clear n0_ n1_ n2_ n3_; clear hb hbox hg; have hcz6_0 : w5.cell? ⟨gb562, 0, none⟩ = some (.int .i64 a0_0) := (blk_cell BK562.out 0).trans rfl; have hcz6_1 : w5.cell? ⟨gb562, 1, none⟩ = some (.slice A0_1 l0_1.length c0_1) := (blk_cell BK562.out 1).trans rfl; have hcz6_2 : w5.cell? ⟨gb562, 2, none⟩ = some (.slice A0_2 l0_2.length c0_2) := (blk_cell BK562.out 2).trans rfl; have hfz6_0 := blk_frozen BK562.out 0; have hfz6_1 := blk_frozen BK562.out 1; have hfz6_2 := blk_frozen BK562.out 2) | ((with_reducible refine gate_callee (f := 11) rfl ?_); refine goesL_ (some 18) rfl rfl Try.func11 (by kernel_rfl) rfl #[.agg #[.int .i64 a0_0, .slice A0_1 l0_1.length c0_1, .slice A0_2 l0_2.length c0_2], .int .i64 1048576] rfl qG ?_; (with_reducible refine (laws_szCircuit.calls a0_0 _ _ l0_1 _ _ l0_2 1048576 t563 _ ?side1 ?side2 ?side3 ?side4 A3.out).mono ?_); (case side1 => exact qC (Kd.C_below HR0_1.out HB.out)); (case side2 => exact HC0_1.out); (case side3 => exact qC (Kd.C_below HR0_2.out HB.out)); (case side4 => exact HC0_2.out); rintro e w7 ⟨rfl, hb⟩; refine ⟨_, rfl, ?_⟩; have n0_ := Aside0.mk (blk_below (g := gb562) (o := .cells #[.int .i64 a0_0, .slice A0_1 l0_1.length c0_1, .slice A0_2 l0_2.length c0_2] 25 (0, 0)) (qK BK562.out) hb); have n1_ := Aside0.mk (below_step (qB) hb); clear BK562; clear HB; have BK562 := n0_; have HB := n1_; clear n0_ n1_; (try clear hb); (try clear hb2); (try clear hk); (try clear hi)))
  go_ret
  exact ⟨qE, qB⟩
 ·rw [if_neg c4] at H
  have c4b0 : decide (t563 < 0) = false := decide_eq_false c4
  clear c4
  replace H := Option.bind_eq_some_iff.mp H
  obtain ⟨⟨t564, t565, t568⟩, A80, H⟩ := H
  replace H : ((spec_ConeOf.f k t564 t565 t568 a1).bind fun bt571 => ((laws_toCircuit.f k a0_0 l0_1 l0_2).bind fun bt575 => ((impl_ConeOf.f k bt575.1 bt575.2.1 bt575.2.2 a1).bind fun bt583 => ((laws_eqIntS.f k bt583.1 bt571.1).bind fun t587 => (if t587 = true then (laws_FnExactConeOf.j0 k a1 bt571.1 bt571.2 bt583.1 bt583.2 (bt583.2 != bt571.2) a0_0 l0_1 l0_2 bt575.1 bt575.2.1 bt575.2.2) else (laws_FnExactConeOf.j0 k a1 bt571.1 bt571.2 bt583.1 bt583.2 true a0_0 l0_1 l0_2 bt575.1 bt575.2.1 bt575.2.2)))))) = some true := H
  have A8 := Aside0.mk A80
  clear A80
  replace H := Option.bind_eq_some_iff.mp H
  obtain ⟨⟨t571, t574⟩, A90, H⟩ := H
  replace H : ((laws_toCircuit.f k a0_0 l0_1 l0_2).bind fun bt575 => ((impl_ConeOf.f k bt575.1 bt575.2.1 bt575.2.2 a1).bind fun bt583 => ((laws_eqIntS.f k bt583.1 t571).bind fun t587 => (if t587 = true then (laws_FnExactConeOf.j0 k a1 t571 t574 bt583.1 bt583.2 (bt583.2 != t574) a0_0 l0_1 l0_2 bt575.1 bt575.2.1 bt575.2.2) else (laws_FnExactConeOf.j0 k a1 t571 t574 bt583.1 bt583.2 true a0_0 l0_1 l0_2 bt575.1 bt575.2.1 bt575.2.2))))) = some true := H
  have A9 := Aside0.mk A90
  clear A90
  replace H := Option.bind_eq_some_iff.mp H
  obtain ⟨⟨t575, t576, t579⟩, A100, H⟩ := H
  replace H : ((impl_ConeOf.f k t575 t576 t579 a1).bind fun bt583 => ((laws_eqIntS.f k bt583.1 t571).bind fun t587 => (if t587 = true then (laws_FnExactConeOf.j0 k a1 t571 t574 bt583.1 bt583.2 (bt583.2 != t574) a0_0 l0_1 l0_2 t575 t576 t579) else (laws_FnExactConeOf.j0 k a1 t571 t574 bt583.1 bt583.2 true a0_0 l0_1 l0_2 t575 t576 t579)))) = some true := H
  have A10 := Aside0.mk A100
  clear A100
  replace H := Option.bind_eq_some_iff.mp H
  obtain ⟨⟨t583, t586⟩, A110, H⟩ := H
  replace H : ((laws_eqIntS.f k t583 t571).bind fun t587 => (if t587 = true then (laws_FnExactConeOf.j0 k a1 t571 t574 t583 t586 (t586 != t574) a0_0 l0_1 l0_2 t575 t576 t579) else (laws_FnExactConeOf.j0 k a1 t571 t574 t583 t586 true a0_0 l0_1 l0_2 t575 t576 t579))) = some true := H
  have A11 := Aside0.mk A110
  clear A110
  have HC12 := Aside0.mk H
  clear H
  go_enter Try.func6, Try.ntmps6
  go_upto_region 8 with (first | ((with_reducible refine gate_dst (N := 2) rfl ?_); refine box_event ?hg (N := 2) ?hd (cs := #[.int .i64 a0_0, .slice A0_1 l0_1.length c0_1, .slice A0_2 l0_2.length c0_2]) (t := 25) ?hr ?_; (case hd => rfl); (case hg => rfl); (case hr => first | (go_simp; done) | (go_simp; rfl)); intro gb562 hg w13 hbox hb; have n0_ := Aside0.mk (below_step (qB) hb); have n1_ := Aside0.mk (hbox); have n2_ := Aside0.mk ((by rw [hg]; exact (below_size (qB)) : w.heap.size ≤ gb562)); have n3_ := Aside0.mk ((by rw [hg]; exact (below_size (qB)) : w.heap.size ≤ gb562)); clear HB; have HB := n0_; have BK562 := n1_; have GW562 := n2_; have GE562 := n3_; clear n0_ n1_ n2_ n3_; clear hb hbox hg; have hcz14_0 : w13.cell? ⟨gb562, 0, none⟩ = some (.int .i64 a0_0) := (blk_cell BK562.out 0).trans rfl; have hcz14_1 : w13.cell? ⟨gb562, 1, none⟩ = some (.slice A0_1 l0_1.length c0_1) := (blk_cell BK562.out 1).trans rfl; have hcz14_2 : w13.cell? ⟨gb562, 2, none⟩ = some (.slice A0_2 l0_2.length c0_2) := (blk_cell BK562.out 2).trans rfl; have hfz14_0 := blk_frozen BK562.out 0; have hfz14_1 := blk_frozen BK562.out 1; have hfz14_2 := blk_frozen BK562.out 2) | ((with_reducible refine gate_callee (f := 11) rfl ?_); refine goesL_ (some 18) rfl rfl Try.func11 (by kernel_rfl) rfl #[.agg #[.int .i64 a0_0, .slice A0_1 l0_1.length c0_1, .slice A0_2 l0_2.length c0_2], .int .i64 1048576] rfl qG ?_; (with_reducible refine (laws_szCircuit.calls a0_0 _ _ l0_1 _ _ l0_2 1048576 t563 _ ?side1 ?side2 ?side3 ?side4 A3.out).mono ?_); (case side1 => exact qC (Kd.C_below HR0_1.out HB.out)); (case side2 => exact HC0_1.out); (case side3 => exact qC (Kd.C_below HR0_2.out HB.out)); (case side4 => exact HC0_2.out); rintro e w15 ⟨rfl, hb⟩; refine ⟨_, rfl, ?_⟩; have n0_ := Aside0.mk (blk_below (g := gb562) (o := .cells #[.int .i64 a0_0, .slice A0_1 l0_1.length c0_1, .slice A0_2 l0_2.length c0_2] 25 (0, 0)) (qK BK562.out) hb); have n1_ := Aside0.mk (below_step (qB) hb); clear BK562; clear HB; have BK562 := n0_; have HB := n1_; clear n0_ n1_; (try clear hb); (try clear hb2); (try clear hk); (try clear hi); have hcz16_0 : w15.cell? ⟨gb562, 0, none⟩ = some (.int .i64 a0_0) := (blk_cell BK562.out 0).trans rfl; have hcz16_1 : w15.cell? ⟨gb562, 1, none⟩ = some (.slice A0_1 l0_1.length c0_1) := (blk_cell BK562.out 1).trans rfl; have hcz16_2 : w15.cell? ⟨gb562, 2, none⟩ = some (.slice A0_2 l0_2.length c0_2) := (blk_cell BK562.out 2).trans rfl; have hfz16_0 := blk_frozen BK562.out 0; have hfz16_1 := blk_frozen BK562.out 1; have hfz16_2 := blk_frozen BK562.out 2) | ((with_reducible refine gate_callee (f := 13) rfl ?_); refine goesL_ (some 23) rfl rfl Try.func13 (by kernel_rfl) rfl #[.agg #[.int .i64 a0_0, .slice A0_1 l0_1.length c0_1, .slice A0_2 l0_2.length c0_2]] rfl qG ?_; (with_reducible refine (laws_toCircuit.calls k a0_0 _ _ l0_1 _ _ l0_2 t564 t565 t568 _ ?side1 ?side2 ?side3 ?side4 A8.out).mono ?_); (case side1 => exact qC (Kd.C_below HR0_1.out HB.out)); (case side2 => exact HC0_1.out); (case side3 => exact qC (Kd.C_below HR0_2.out HB.out)); (case side4 => exact HC0_2.out); rintro e w17 ⟨v566, v569, rfl, ho0, ho1, hb⟩; refine ⟨_, rfl, ?_⟩; have n0_ := Aside0.mk (Kd.R_lower ho0 (below_size (qB))); have n1_ := Aside0.mk (Kd.R_lower ho1 (below_size (qB))); have n2_ := Aside0.mk (blk_below (g := gb562) (o := .cells #[.int .i64 a0_0, .slice A0_1 l0_1.length c0_1, .slice A0_2 l0_2.length c0_2] 25 (0, 0)) (qK BK562.out) hb); have n3_ := Aside0.mk (below_step (qB) hb); clear BK562; clear HB; have HO567 := n0_; have HO570 := n1_; have BK562 := n2_; have HB := n3_; clear n0_ n1_ n2_ n3_; (try clear hb); (try clear hb2); (try clear hk); (try clear hi); (try clear ho0); (try clear ho1); obtain ⟨Ao18, co18, eo18⟩ := Kd.R_slice HO567.out; subst eo18; obtain ⟨Ao19, co19, eo19⟩ := Kd.R_slice HO570.out; subst eo19) | ((with_reducible refine gate_callee (f := 25) rfl ?_); refine goesL_ (some 25) rfl rfl Try.func25 (by kernel_rfl) rfl #[.agg #[.int .i64 t564, .slice Ao18 t565.length co18, .slice Ao19 t568.length co19], .int .i64 a1] rfl qG ?_; (with_reducible refine (spec_ConeOf.calls k t564 _ _ t565 _ _ t568 a1 t571 t574 _ ?side1 ?side2 ?side3 ?side4 A9.out).mono ?_); (case side1 => repeat (first | exact (Kd.R_reads' HO567.out).2.2 | (with_reducible refine Kd.C_alloc ?_ _) | (with_reducible refine Kd.C_drewN ?_ _) | (with_reducible refine Kd.C_drew ?_))); (case side2 => exact (Kd.R_reads' HO567.out).2.1); (case side3 => repeat (first | exact (Kd.R_reads' HO570.out).2.2 | (with_reducible refine Kd.C_alloc ?_ _) | (with_reducible refine Kd.C_drewN ?_ _) | (with_reducible refine Kd.C_drew ?_))); (case side4 => exact (Kd.R_reads' HO570.out).2.1); rintro e w20 ⟨v572, rfl, ho0, hb⟩; refine ⟨_, rfl, ?_⟩; have n0_ := Aside0.mk (Kd.R_below (qR HO567.out) hb); have n1_ := Aside0.mk (Kd.R_elder' (qR HO570.out) (Kd.R_base ho0) hb); have n2_ := Aside0.mk (Kd.R_lower (Kd.R_new' ho0 (Kd.R_lt (qR HO570.out))) (below_size (qB))); have n3_ := Aside0.mk (blk_below (g := gb562) (o := .cells #[.int .i64 a0_0, .slice A0_1 l0_1.length c0_1, .slice A0_2 l0_2.length c0_2] 25 (0, 0)) (qK BK562.out) hb); have n4_ := Aside0.mk (below_step (qB) hb); clear HO567; clear HO570; clear BK562; clear HB; have HO567 := n0_; have HO570 := n1_; have HO573 := n2_; have BK562 := n3_; have HB := n4_; clear n0_ n1_ n2_ n3_ n4_; (try clear hb); (try clear hb2); (try clear hk); (try clear hi); (try clear ho0); have hcz21_0 : w20.cell? ⟨gb562, 0, none⟩ = some (.int .i64 a0_0) := (blk_cell BK562.out 0).trans rfl; have hcz21_1 : w20.cell? ⟨gb562, 1, none⟩ = some (.slice A0_1 l0_1.length c0_1) := (blk_cell BK562.out 1).trans rfl; have hcz21_2 : w20.cell? ⟨gb562, 2, none⟩ = some (.slice A0_2 l0_2.length c0_2) := (blk_cell BK562.out 2).trans rfl; have hfz21_0 := blk_frozen BK562.out 0; have hfz21_1 := blk_frozen BK562.out 1; have hfz21_2 := blk_frozen BK562.out 2) | ((with_reducible refine gate_callee (f := 13) rfl ?_); refine goesL_ (some 29) rfl rfl Try.func13 (by kernel_rfl) rfl #[.agg #[.int .i64 a0_0, .slice A0_1 l0_1.length c0_1, .slice A0_2 l0_2.length c0_2]] rfl qG ?_; (with_reducible refine (laws_toCircuit.calls k a0_0 _ _ l0_1 _ _ l0_2 t575 t576 t579 _ ?side1 ?side2 ?side3 ?side4 A10.out).mono ?_); (case side1 => exact qC (Kd.C_below HR0_1.out HB.out)); (case side2 => exact HC0_1.out); (case side3 => exact qC (Kd.C_below HR0_2.out HB.out)); (case side4 => exact HC0_2.out); rintro e w22 ⟨v577, v580, rfl, ho0, ho1, hb⟩; refine ⟨_, rfl, ?_⟩; have n0_ := Aside0.mk (Kd.R_elder' (qR HO567.out) (Kd.R_base ho0) hb); have n1_ := Aside0.mk (Kd.R_elder' (qR HO570.out) (Kd.R_base ho1) hb); have n2_ := Aside0.mk (Kd.R_elder' (qR HO573.out) (Kd.R_base ho1) hb); have n3_ := Aside0.mk (Kd.R_lower (Kd.R_new' ho0 (Kd.R_lt (qR HO567.out))) (below_size (qB))); have n4_ := Aside0.mk (Kd.R_lower (Kd.R_new' (Kd.R_new' ho1 (Kd.R_lt (qR HO570.out))) (Kd.R_lt (qR HO573.out))) (below_size (qB))); have n5_ := Aside0.mk (blk_below (g := gb562) (o := .cells #[.int .i64 a0_0, .slice A0_1 l0_1.length c0_1, .slice A0_2 l0_2.length c0_2] 25 (0, 0)) (qK BK562.out) hb); have n6_ := Aside0.mk (below_step (qB) hb); clear HO567; clear HO570; clear HO573; clear BK562; clear HB; have HO567 := n0_; have HO570 := n1_; have HO573 := n2_; have HO578 := n3_; have HO581 := n4_; have BK562 := n5_; have HB := n6_; clear n0_ n1_ n2_ n3_ n4_ n5_ n6_; (try clear hb); (try clear hb2); (try clear hk); (try clear hi); (try clear ho0); (try clear ho1)) | ((with_reducible refine gate_dst (N := 8) rfl ?_); refine box_event ?hg (N := 8) ?hd (cs := #[.int .i64 0, .slice none 0 0, .slice none 0 0]) (t := 30) ?hr ?_; (case hd => rfl); (case hg => rfl); (case hr => first | (go_simp; done) | (go_simp; rfl)); intro gb582 hg w23 hbox hb; have n0_ := Aside0.mk (Kd.R_below (qR HO567.out) hb); have n1_ := Aside0.mk (Kd.R_below (qR HO570.out) hb); have n2_ := Aside0.mk (Kd.R_below (qR HO573.out) hb); have n3_ := Aside0.mk (Kd.R_below (qR HO578.out) hb); have n4_ := Aside0.mk (Kd.R_below (qR HO581.out) hb); have n5_ := Aside0.mk (blk_below (g := gb562) (o := .cells #[.int .i64 a0_0, .slice A0_1 l0_1.length c0_1, .slice A0_2 l0_2.length c0_2] 25 (0, 0)) (qK BK562.out) hb); have n6_ := Aside0.mk (below_step (qB) hb); have n7_ := Aside0.mk (hbox); have n8_ := Aside0.mk ((by rw [hg]; exact (below_size (qB)) : w.heap.size ≤ gb582)); have n9_ := Aside0.mk ((by rw [hg]; exact (below_size (qB)) : w.heap.size ≤ gb582)); have n10_ := Aside0.mk ((by rw [hg]; exact Nat.ne_of_lt (blk_lt (g := gb562) (o := .cells #[.int .i64 a0_0, .slice A0_1 l0_1.length c0_1, .slice A0_2 l0_2.length c0_2] 25 (0, 0)) (qK BK562.out)) : gb562 ≠ gb582)); have n11_ := Aside0.mk ((by rw [hg]; exact Nat.ne_of_gt (blk_lt (g := gb562) (o := .cells #[.int .i64 a0_0, .slice A0_1 l0_1.length c0_1, .slice A0_2 l0_2.length c0_2] 25 (0, 0)) (qK BK562.out)) : gb582 ≠ gb562)); clear HO567; clear HO570; clear HO573; clear HO578; clear HO581; clear BK562; clear HB; have HO567 := n0_; have HO570 := n1_; have HO573 := n2_; have HO578 := n3_; have HO581 := n4_; have BK562 := n5_; have HB := n6_; have BK582 := n7_; have GW582 := n8_; have GE582 := n9_; have NB562_582 := n10_; have NB582_562 := n11_; clear n0_ n1_ n2_ n3_ n4_ n5_ n6_ n7_ n8_ n9_ n10_ n11_; clear hb hbox hg; have hnb24 := NB582_562.out; have hnc24 := NB562_582.out; have hcz25_0 : w23.cell? ⟨gb582, 0, none⟩ = some (.int .i64 0) := (blk_cell BK582.out 0).trans rfl; have hcz25_1 : w23.cell? ⟨gb582, 1, none⟩ = some (.slice none 0 0) := (blk_cell BK582.out 1).trans rfl; have hcz25_2 : w23.cell? ⟨gb582, 2, none⟩ = some (.slice none 0 0) := (blk_cell BK582.out 2).trans rfl; have hfz25_0 := blk_frozen BK582.out 0; have hfz25_1 := blk_frozen BK582.out 1; have hfz25_2 := blk_frozen BK582.out 2; obtain ⟨Ao26, co26, eo26⟩ := Kd.R_slice HO578.out; subst eo26; obtain ⟨Ao27, co27, eo27⟩ := Kd.R_slice HO581.out; subst eo27) | ((with_reducible refine gate_callee (f := 26) rfl ?_); refine goesL_ (some 33) rfl rfl Try.func26 (by kernel_rfl) rfl #[.agg #[.int .i64 t575, .slice Ao26 t576.length co26, .slice Ao27 t579.length co27], .int .i64 a1] rfl qG ?_; (with_reducible refine (impl_ConeOf.calls k t575 _ _ t576 _ _ t579 a1 t583 t586 _ ?side1 ?side2 ?side3 ?side4 A11.out).mono ?_); (case side1 => refine (Kd.R_reads' (e := 59) (base := w.heap.size) (ok := fun k_ => (True ∧ some k_ ≠ (.slice Ao18 t565.length co18 : Value).ownBlock)) (n := t576.length) (c := co26) ?_).2.2; exact (by (with_reducible repeat (first | apply Kd.R_alloc | apply Kd.R_drewN | apply Kd.R_drew)); exact (Kd.R_mono (Kd.R_far (p := ⟨gb582, 2, none⟩) (Kd.R_far (p := ⟨gb582, 1, none⟩) (Kd.R_far (p := ⟨gb582, 0, none⟩) (Kd.R_types HO578.out BK582.out (by decide)) (fun _ hk => hk.2) (.int .i64 t575)) (fun _ hk => hk.2) (.slice Ao26 t576.length co26)) (fun _ hk => hk.2) (.slice Ao27 t579.length co27)) (fun _ h_ => h_.1)))); (case side2 => exact (Kd.R_reads' HO578.out).2.1); (case side3 => refine (Kd.R_reads' (e := 3) (base := w.heap.size) (ok := fun k_ => ((True ∧ some k_ ≠ (.slice Ao19 t568.length co19 : Value).ownBlock) ∧ some k_ ≠ (v572 : Value).ownBlock)) (n := t579.length) (c := co27) ?_).2.2; exact (by (with_reducible repeat (first | apply Kd.R_alloc | apply Kd.R_drewN | apply Kd.R_drew)); exact (Kd.R_mono (Kd.R_far (p := ⟨gb582, 2, none⟩) (Kd.R_far (p := ⟨gb582, 1, none⟩) (Kd.R_far (p := ⟨gb582, 0, none⟩) (Kd.R_types HO581.out BK582.out (by decide)) (fun _ hk => hk.2) (.int .i64 t575)) (fun _ hk => hk.2) (.slice Ao26 t576.length co26)) (fun _ hk => hk.2) (.slice Ao27 t579.length co27)) (fun _ h_ => h_.1)))); (case side4 => exact (Kd.R_reads' HO581.out).2.1); rintro e w28 ⟨v584, rfl, ho0, hb⟩; refine ⟨_, rfl, ?_⟩; have n0_ := Aside0.mk (Kd.R_below (by (with_reducible repeat (first | apply Kd.R_alloc | apply Kd.R_drewN | apply Kd.R_drew)); exact (Kd.R_mono (Kd.R_far (p := ⟨gb582, 2, none⟩) (Kd.R_far (p := ⟨gb582, 1, none⟩) (Kd.R_far (p := ⟨gb582, 0, none⟩) (Kd.R_types HO567.out BK582.out (by decide)) (fun _ hk => hk.2) (.int .i64 t575)) (fun _ hk => hk.2) (.slice Ao26 t576.length co26)) (fun _ hk => hk.2) (.slice Ao27 t579.length co27)) (fun _ h_ => h_.1))) hb); have n1_ := Aside0.mk (Kd.R_elder' (by (with_reducible repeat (first | apply Kd.R_alloc | apply Kd.R_drewN | apply Kd.R_drew)); exact (Kd.R_mono (Kd.R_far (p := ⟨gb582, 2, none⟩) (Kd.R_far (p := ⟨gb582, 1, none⟩) (Kd.R_far (p := ⟨gb582, 0, none⟩) (Kd.R_types HO570.out BK582.out (by decide)) (fun _ hk => hk.2) (.int .i64 t575)) (fun _ hk => hk.2) (.slice Ao26 t576.length co26)) (fun _ hk => hk.2) (.slice Ao27 t579.length co27)) (fun _ h_ => h_.1))) (Kd.R_base ho0) hb); have n2_ := Aside0.mk (Kd.R_elder' (by (with_reducible repeat (first | apply Kd.R_alloc | apply Kd.R_drewN | apply Kd.R_drew)); exact (Kd.R_mono (Kd.R_far (p := ⟨gb582, 2, none⟩) (Kd.R_far (p := ⟨gb582, 1, none⟩) (Kd.R_far (p := ⟨gb582, 0, none⟩) (Kd.R_types HO573.out BK582.out (by decide)) (fun _ hk => hk.2) (.int .i64 t575)) (fun _ hk => hk.2) (.slice Ao26 t576.length co26)) (fun _ hk => hk.2) (.slice Ao27 t579.length co27)) (fun _ h_ => h_.1))) (Kd.R_base ho0) hb); have n3_ := Aside0.mk (Kd.R_below (by (with_reducible repeat (first | apply Kd.R_alloc | apply Kd.R_drewN | apply Kd.R_drew)); exact (Kd.R_mono (Kd.R_far (p := ⟨gb582, 2, none⟩) (Kd.R_far (p := ⟨gb582, 1, none⟩) (Kd.R_far (p := ⟨gb582, 0, none⟩) (Kd.R_types HO578.out BK582.out (by decide)) (fun _ hk => hk.2) (.int .i64 t575)) (fun _ hk => hk.2) (.slice Ao26 t576.length co26)) (fun _ hk => hk.2) (.slice Ao27 t579.length co27)) (fun _ h_ => h_.1))) hb); have n4_ := Aside0.mk (Kd.R_elder' (by (with_reducible repeat (first | apply Kd.R_alloc | apply Kd.R_drewN | apply Kd.R_drew)); exact (Kd.R_mono (Kd.R_far (p := ⟨gb582, 2, none⟩) (Kd.R_far (p := ⟨gb582, 1, none⟩) (Kd.R_far (p := ⟨gb582, 0, none⟩) (Kd.R_types HO581.out BK582.out (by decide)) (fun _ hk => hk.2) (.int .i64 t575)) (fun _ hk => hk.2) (.slice Ao26 t576.length co26)) (fun _ hk => hk.2) (.slice Ao27 t579.length co27)) (fun _ h_ => h_.1))) (Kd.R_base ho0) hb); have n5_ := Aside0.mk (Kd.R_lower (Kd.R_new' (Kd.R_new' (Kd.R_new' ho0 (Kd.R_lt (by (with_reducible repeat (first | apply Kd.R_alloc | apply Kd.R_drewN | apply Kd.R_drew)); exact (Kd.R_mono (Kd.R_far (p := ⟨gb582, 2, none⟩) (Kd.R_far (p := ⟨gb582, 1, none⟩) (Kd.R_far (p := ⟨gb582, 0, none⟩) (Kd.R_types HO570.out BK582.out (by decide)) (fun _ hk => hk.2) (.int .i64 t575)) (fun _ hk => hk.2) (.slice Ao26 t576.length co26)) (fun _ hk => hk.2) (.slice Ao27 t579.length co27)) (fun _ h_ => h_.1))))) (Kd.R_lt (by (with_reducible repeat (first | apply Kd.R_alloc | apply Kd.R_drewN | apply Kd.R_drew)); exact (Kd.R_mono (Kd.R_far (p := ⟨gb582, 2, none⟩) (Kd.R_far (p := ⟨gb582, 1, none⟩) (Kd.R_far (p := ⟨gb582, 0, none⟩) (Kd.R_types HO573.out BK582.out (by decide)) (fun _ hk => hk.2) (.int .i64 t575)) (fun _ hk => hk.2) (.slice Ao26 t576.length co26)) (fun _ hk => hk.2) (.slice Ao27 t579.length co27)) (fun _ h_ => h_.1))))) (Kd.R_lt (by (with_reducible repeat (first | apply Kd.R_alloc | apply Kd.R_drewN | apply Kd.R_drew)); exact (Kd.R_mono (Kd.R_far (p := ⟨gb582, 2, none⟩) (Kd.R_far (p := ⟨gb582, 1, none⟩) (Kd.R_far (p := ⟨gb582, 0, none⟩) (Kd.R_types HO581.out BK582.out (by decide)) (fun _ hk => hk.2) (.int .i64 t575)) (fun _ hk => hk.2) (.slice Ao26 t576.length co26)) (fun _ hk => hk.2) (.slice Ao27 t579.length co27)) (fun _ h_ => h_.1))))) (below_size (qB))); have n6_ := Aside0.mk (blk_below (g := gb562) (o := .cells #[.int .i64 a0_0, .slice A0_1 l0_1.length c0_1, .slice A0_2 l0_2.length c0_2] 25 (0, 0)) (qF BK562.out) hb); have n7_ := Aside0.mk (blk_below (g := gb582) (o := .cells #[.int .i64 t575, .slice Ao26 t576.length co26, .slice Ao27 t579.length co27] 30 (0, 0)) (by (with_reducible repeat (first | refine blk_drewN ?_ _ | refine blk_drew ?_ | refine blk_alloc ?_ _)); refine blk_put (cs := #[.int .i64 t575, .slice Ao26 t576.length co26, .slice none 0 0]) ?_ 2 _ rfl; refine blk_put (cs := #[.int .i64 t575, .slice none 0 0, .slice none 0 0]) ?_ 1 _ rfl; refine blk_put (cs := #[.int .i64 0, .slice none 0 0, .slice none 0 0]) ?_ 0 _ rfl; exact qK BK582.out) hb); have n8_ := Aside0.mk (below_step (qB) hb); clear HO567; clear HO570; clear HO573; clear HO578; clear HO581; clear BK562; clear BK582; clear HB; have HO567 := n0_; have HO570 := n1_; have HO573 := n2_; have HO578 := n3_; have HO581 := n4_; have HO585 := n5_; have BK562 := n6_; have BK582 := n7_; have HB := n8_; clear n0_ n1_ n2_ n3_ n4_ n5_ n6_ n7_ n8_; (try clear hb); (try clear hb2); (try clear hk); (try clear hi); (try clear ho0)))
  (try simp only [Act.put, List.setIfInBounds_toArray, List.set_cons_zero, List.set_cons_succ])
  go_cut [44] (fun v44 wc => ∃ (kq : Nat) (x44_11 : Bool), v44 = .bool x44_11 ∧ Aside0 (laws_FnExactConeOf.j0 kq a1 t571 t574 t583 t586 x44_11 a0_0 l0_1 l0_2 t575 t576 t579 = some true) ∧ Aside0 (kq ≤ k) ∧ Aside0 (Kd.R (Kd.int .i64) 3 wc w.heap.size (fun k_ => some k_ ≠ (v584 : Value).ownBlock ∧ some k_ ≠ ((.slice Ao27 t579.length co27) : Value).ownBlock) v572 t571) ∧ Aside0 (Kd.R (Kd.int .i64) 3 wc w.heap.size (fun k_ => some k_ ≠ (v572 : Value).ownBlock ∧ some k_ ≠ ((.slice Ao27 t579.length co27) : Value).ownBlock) v584 t583) ∧ Aside0 (Kd.R k59 59 wc w.heap.size (fun _ => True) (.slice Ao26 t576.length co26) t576) ∧ Aside0 (Kd.R (Kd.int .i64) 3 wc w.heap.size (fun k_ => some k_ ≠ (v572 : Value).ownBlock ∧ some k_ ≠ (v584 : Value).ownBlock) (.slice Ao27 t579.length co27) t579) ∧ Aside0 (wc.heap[gb562]? = some (.cells #[.int .i64 a0_0, (.slice A0_1 l0_1.length c0_1), (.slice A0_2 l0_2.length c0_2)] 25 (0, 0))) ∧ Aside0 (wc.heap[gb582]? = some (.cells #[.int .i64 t575, (.slice Ao26 t576.length co26), (.slice Ao27 t579.length co27)] 30 (0, 0))) ∧ Aside0 (Below w.heap.size w wc))
  case first =>
   have H := HC12.out
   clear HC12
   replace H := Option.bind_eq_some_iff.mp H
   obtain ⟨t587, A290, H⟩ := H
   replace H : (if t587 = true then (laws_FnExactConeOf.j0 k a1 t571 t574 t583 t586 (t586 != t574) a0_0 l0_1 l0_2 t575 t576 t579) else (laws_FnExactConeOf.j0 k a1 t571 t574 t583 t586 true a0_0 l0_1 l0_2 t575 t576 t579)) = some true := H
   have A29 := Aside0.mk A290
   clear A290
   by_cases c30 : t587 = true
   ·subst c30
    have H1 : (laws_FnExactConeOf.j0 k a1 t571 t574 t583 t586 (t586 != t574) a0_0 l0_1 l0_2 t575 t576 t579) = some true := by rw [if_pos rfl] at H; exact H
    clear H
    have H := H1
    clear H1
    have H' := Aside0.mk H
    clear H
    obtain ⟨Ao31, co31, eo31⟩ := Kd.R_slice HO585.out
    subst eo31
    obtain ⟨Ao32, co32, eo32⟩ := Kd.R_slice HO573.out
    subst eo32
    go_wp2_with (first | ((with_reducible refine gate_callee (f := 27) rfl ?_); refine goesL_ (some 38) rfl rfl Try.func27 (by kernel_rfl) rfl #[.slice Ao31 t583.length co31, .slice Ao32 t571.length co32] rfl qG ?_; (with_reducible refine (laws_eqIntS.calls k _ _ t583 _ _ t571 true _ ?side1 ?side2 ?side3 ?side4 A29.out).mono ?_); (case side1 => repeat (first | exact (Kd.R_reads' HO585.out).2.2 | (with_reducible refine Kd.C_alloc ?_ _) | (with_reducible refine Kd.C_drewN ?_ _) | (with_reducible refine Kd.C_drew ?_))); (case side2 => exact (Kd.R_reads' HO585.out).2.1); (case side3 => repeat (first | exact (Kd.R_reads' HO573.out).2.2 | (with_reducible refine Kd.C_alloc ?_ _) | (with_reducible refine Kd.C_drewN ?_ _) | (with_reducible refine Kd.C_drew ?_))); (case side4 => exact (Kd.R_reads' HO573.out).2.1); rintro e w' ⟨rfl, ⟨nd, rfl⟩⟩; refine ⟨_, rfl, ?_⟩))
    go_meet
    case rel => exact ⟨_, ((t586 != t574)), qS, H', ⟨by first | omega | exact Nat.le_refl _⟩, ⟨by (with_reducible repeat (first | apply Kd.R_alloc | apply Kd.R_drewN | apply Kd.R_drew)); exact Kd.R_mono HO573.out (fun _ hk => ⟨hk.2, hk.1.2⟩)⟩, ⟨by (with_reducible repeat (first | apply Kd.R_alloc | apply Kd.R_drewN | apply Kd.R_drew)); exact Kd.R_mono HO585.out (fun _ hk => ⟨hk.1.2, hk.2⟩)⟩, ⟨by (with_reducible repeat (first | apply Kd.R_alloc | apply Kd.R_drewN | apply Kd.R_drew)); exact Kd.R_mono HO578.out (fun _ hk => trivial)⟩, ⟨by (with_reducible repeat (first | apply Kd.R_alloc | apply Kd.R_drewN | apply Kd.R_drew)); exact Kd.R_mono HO581.out (fun _ hk => ⟨hk.1.2, hk.2⟩)⟩, ⟨by exact qK BK562.out⟩, ⟨by exact qK BK582.out⟩, ⟨qB⟩⟩
   ·replace c30 := Bool.eq_false_iff.mpr c30
    subst c30
    have H1 : (laws_FnExactConeOf.j0 k a1 t571 t574 t583 t586 true a0_0 l0_1 l0_2 t575 t576 t579) = some true := by rw [if_neg (show ¬ (false = true) by decide)] at H; exact H
    exact absurd H1 (by cases k <;> simp [laws_FnExactConeOf.j0])
  case rest =>
   clear HC12
   try clear c1
   try clear c2
   try clear p2
   try clear c3
   try clear c4
   try clear c4b0
   try clear c6
   try clear c11
   try clear c13
   try clear c24
   try clear c25
   try clear c26
   try clear c27
   try clear c30
   try clear hcz14_0
   try clear hcz14_1
   try clear hcz14_2
   try clear hcz16_0
   try clear hcz16_1
   try clear hcz16_2
   try clear hcz21_0
   try clear hcz21_1
   try clear hcz21_2
   try clear hcz25_0
   try clear hcz25_1
   try clear hcz25_2
   try clear hcz6_0
   try clear hcz6_1
   try clear hcz6_2
   try clear hfz14_0
   try clear hfz14_1
   try clear hfz14_2
   try clear hfz16_0
   try clear hfz16_1
   try clear hfz16_2
   try clear hfz21_0
   try clear hfz21_1
   try clear hfz21_2
   try clear hfz25_0
   try clear hfz25_1
   try clear hfz25_2
   try clear hfz6_0
   try clear hfz6_1
   try clear hfz6_2
   obtain ⟨kq, x44_11, rfl, HA, HJ11, HO_6, HO_9, HO_583001, HO_583002, BK562, BK582, HB⟩ := hcut
   cases kq with
   | zero => exact absurd HA.out (by simp [laws_FnExactConeOf.j0])
   | succ kj11 =>
    have H := HA.out
    clear HA
    simp only [laws_FnExactConeOf.j0] at H
    by_cases c35 : x44_11 = true
    ·subst c35
     have H1 : (some false) = some true := by rw [if_pos rfl] at H; exact H
     exact absurd H1 (by simp)
    ·replace c35 := Bool.eq_false_iff.mpr c35
     subst c35
     have H1 : ((laws_toCircuit.f kj11 a0_0 l0_1 l0_2).bind fun bt588 => ((laws_eqCircuit.f kj11 t575 t576 t579 bt588.1 bt588.2.1 bt588.2.2).bind fun t595 => (if t595 = true then ((laws_markCircuit.f kj11 t575 t576 t579 1).bind fun bt596 => (if bt596.1 < 0 then (laws_FnExactConeOf.j1 kj11 a1 t571 t574 t583 true a0_0 l0_1 l0_2) else ((laws_eqIntS.f kj11 t583 t571).bind fun t599 => (if t599 = true then (laws_FnExactConeOf.j1 kj11 a1 t571 t574 t583 (t586 != t574) a0_0 l0_1 l0_2) else (laws_FnExactConeOf.j1 kj11 a1 t571 t574 t583 true a0_0 l0_1 l0_2))))) else (some false)))) = some true := by rw [if_neg (show ¬ (false = true) by decide)] at H; exact H
     clear H
     have H := H1
     clear H1
     replace H := Option.bind_eq_some_iff.mp H
     obtain ⟨⟨t588, t589, t592⟩, A360, H⟩ := H
     replace H : ((laws_eqCircuit.f kj11 t575 t576 t579 t588 t589 t592).bind fun t595 => (if t595 = true then ((laws_markCircuit.f kj11 t575 t576 t579 1).bind fun bt596 => (if bt596.1 < 0 then (laws_FnExactConeOf.j1 kj11 a1 t571 t574 t583 true a0_0 l0_1 l0_2) else ((laws_eqIntS.f kj11 t583 t571).bind fun t599 => (if t599 = true then (laws_FnExactConeOf.j1 kj11 a1 t571 t574 t583 (t586 != t574) a0_0 l0_1 l0_2) else (laws_FnExactConeOf.j1 kj11 a1 t571 t574 t583 true a0_0 l0_1 l0_2))))) else (some false))) = some true := H
     have A36 := Aside0.mk A360
     clear A360
     replace H := Option.bind_eq_some_iff.mp H
     obtain ⟨t595, A370, H⟩ := H
     replace H : (if t595 = true then ((laws_markCircuit.f kj11 t575 t576 t579 1).bind fun bt596 => (if bt596.1 < 0 then (laws_FnExactConeOf.j1 kj11 a1 t571 t574 t583 true a0_0 l0_1 l0_2) else ((laws_eqIntS.f kj11 t583 t571).bind fun t599 => (if t599 = true then (laws_FnExactConeOf.j1 kj11 a1 t571 t574 t583 (t586 != t574) a0_0 l0_1 l0_2) else (laws_FnExactConeOf.j1 kj11 a1 t571 t574 t583 true a0_0 l0_1 l0_2))))) else (some false)) = some true := H
     have A37 := Aside0.mk A370
     clear A370
     by_cases c38 : t595 = true
     ·subst c38
      have H1 : ((laws_markCircuit.f kj11 t575 t576 t579 1).bind fun bt596 => (if bt596.1 < 0 then (laws_FnExactConeOf.j1 kj11 a1 t571 t574 t583 true a0_0 l0_1 l0_2) else ((laws_eqIntS.f kj11 t583 t571).bind fun t599 => (if t599 = true then (laws_FnExactConeOf.j1 kj11 a1 t571 t574 t583 (t586 != t574) a0_0 l0_1 l0_2) else (laws_FnExactConeOf.j1 kj11 a1 t571 t574 t583 true a0_0 l0_1 l0_2))))) = some true := by rw [if_pos rfl] at H; exact H
      clear H
      have H := H1
      clear H1
      replace H := Option.bind_eq_some_iff.mp H
      obtain ⟨⟨t596, t597, t598⟩, A390, H⟩ := H
      replace H : (if t596 < 0 then (laws_FnExactConeOf.j1 kj11 a1 t571 t574 t583 true a0_0 l0_1 l0_2) else ((laws_eqIntS.f kj11 t583 t571).bind fun t599 => (if t599 = true then (laws_FnExactConeOf.j1 kj11 a1 t571 t574 t583 (t586 != t574) a0_0 l0_1 l0_2) else (laws_FnExactConeOf.j1 kj11 a1 t571 t574 t583 true a0_0 l0_1 l0_2)))) = some true := H
      have A39 := Aside0.mk A390
      clear A390
      have HC40 := Aside0.mk H
      clear H
      try go_wp2
      have n0_ := Aside0.mk (Kd.R_drew HO_6.out)
      have n1_ := Aside0.mk (Kd.R_drew HO_9.out)
      have n2_ := Aside0.mk (Kd.R_drew HO_583001.out)
      have n3_ := Aside0.mk (Kd.R_drew HO_583002.out)
      have n4_ := Aside0.mk (blk_drew BK562.out)
      have n5_ := Aside0.mk (blk_drew BK582.out)
      have n6_ := Aside0.mk (below_drew1 HB.out)
      clear HO_6
      clear HO_9
      clear HO_583001
      clear HO_583002
      clear BK562
      clear BK582
      clear HB
      have HO_6 := n0_
      have HO_9 := n1_
      have HO_583001 := n2_
      have HO_583002 := n3_
      have BK562 := n4_
      have BK582 := n5_
      have HB := n6_
      clear n0_ n1_ n2_ n3_ n4_ n5_ n6_
      refine start_ (n := 5) (S := fun w' => w'.cell? ⟨gb582, 0, none⟩ = some (.int .i64 t575) ∧ w'.cell? ⟨gb582, 1, none⟩ = some (.slice Ao26 t576.length co26) ∧ w'.cell? ⟨gb582, 2, none⟩ = some (.slice Ao27 t579.length co27) ∧ w'.cell? ⟨gb562, 0, none⟩ = some (.int .i64 a0_0) ∧ w'.cell? ⟨gb562, 1, none⟩ = some (.slice A0_1 l0_1.length c0_1) ∧ w'.cell? ⟨gb562, 2, none⟩ = some (.slice A0_2 l0_2.length c0_2)) (ds := []) #[false, false, false, false, false] (by kernel_rfl) rfl rfl ⟨(blk_cell BK582.out 0).trans rfl, (blk_cell BK582.out 1).trans rfl, (blk_cell BK582.out 2).trans rfl, (blk_cell BK562.out 0).trans rfl, (blk_cell BK562.out 1).trans rfl, (blk_cell BK562.out 2).trans rfl⟩ (fun hHeld => ?_)
      generalize wc.drew = w41 at HO_6 HO_9 HO_583001 HO_583002 BK562 BK582 HB hHeld ⊢
      refine take_ (i := 0) (N := some 45) (v := ?_) (a' := ?_) #[true, false, false, false, false] rfl rfl (by kernel_rfl) (fun _ _ _ h => h) (Or.inl ⟨by rfl, ?_⟩) hHeld ?_ ?_
      rotate_left
      ·rintro w' ⟨s0, s1, s2, s3, s4, s5⟩
       go_simp
       with_reducible rfl
      rotate_left
      ·simp only [Act.put, List.setIfInBounds_toArray, List.set_cons_zero, List.set_cons_succ, i64_w, i32_w]
       rfl
      refine take_ (i := 1) (N := some 46) (v := ?_) (a' := ?_) #[true, true, false, false, false] rfl rfl (by kernel_rfl) (fun _ _ _ h => h) (Or.inl ⟨by rfl, ?_⟩) hHeld ?_ ?_
      rotate_left
      ·rintro w' ⟨s0, s1, s2, s3, s4, s5⟩
       go_simp
       with_reducible rfl
      rotate_left
      ·simp only [Act.put, List.setIfInBounds_toArray, List.set_cons_zero, List.set_cons_succ, i64_w, i32_w]
       rfl
      refine one_ (i := 2) (N := some 47) #[true, true, true, false, false] rfl rfl (by kernel_rfl) (by decide) (fun K hK => ?_)
      refine goes_ Try.func13 (by kernel_rfl) rfl #[.agg #[.int .i64 a0_0, .slice A0_1 l0_1.length c0_1, .slice A0_2 l0_2.length c0_2]] (by rfl) rfl rfl qG ?_
      with_reducible refine (laws_toCircuit.calls kj11 a0_0 _ _ l0_1 _ _ l0_2 t588 t589 t592 _ ?side1 ?side2 ?side3 ?side4 A36.out).mono ?_
      (case side1 => exact qC (Kd.C_below HR0_1.out HB.out))
      (case side2 => exact HC0_1.out)
      (case side3 => exact qC (Kd.C_below HR0_2.out HB.out))
      (case side4 => exact HC0_2.out)
      rintro e w42 ⟨v590, v593, rfl, ho0, ho1, hb⟩
      refine ⟨_, rfl, ?_⟩
      have n0_ := Aside0.mk (Kd.R_elder' (qR HO_6.out) (Kd.R_base ho1) hb)
      have n1_ := Aside0.mk (Kd.R_elder' (qR HO_9.out) (Kd.R_base ho1) hb)
      have n2_ := Aside0.mk (Kd.R_elder' (qR HO_583001.out) (Kd.R_base ho0) hb)
      have n3_ := Aside0.mk (Kd.R_elder' (qR HO_583002.out) (Kd.R_base ho1) hb)
      have n4_ := Aside0.mk (Kd.R_lower (Kd.R_new' ho0 (Kd.R_lt (qR HO_583001.out))) (below_size (qB)))
      have n5_ := Aside0.mk (Kd.R_lower (Kd.R_new' (Kd.R_new' (Kd.R_new' ho1 (Kd.R_lt (qR HO_6.out))) (Kd.R_lt (qR HO_9.out))) (Kd.R_lt (qR HO_583002.out))) (below_size (qB)))
      have n6_ := Aside0.mk (blk_below (g := gb562) (o := .cells #[.int .i64 a0_0, .slice A0_1 l0_1.length c0_1, .slice A0_2 l0_2.length c0_2] 25 (0, 0)) (qK BK562.out) hb)
      have n7_ := Aside0.mk (blk_below (g := gb582) (o := .cells #[.int .i64 t575, .slice Ao26 t576.length co26, .slice Ao27 t579.length co27] 30 (0, 0)) (qK BK582.out) hb)
      have n8_ := Aside0.mk (below_step (qB) hb)
      clear HO_6
      clear HO_9
      clear HO_583001
      clear HO_583002
      clear BK562
      clear BK582
      clear HB
      have HO_6 := n0_
      have HO_9 := n1_
      have HO_583001 := n2_
      have HO_583002 := n3_
      have HO591 := n4_
      have HO594 := n5_
      have BK562 := n6_
      have BK582 := n7_
      have HB := n8_
      clear n0_ n1_ n2_ n3_ n4_ n5_ n6_ n7_ n8_
      (try clear hb)
      (try clear hb2)
      (try clear hk)
      (try clear hi)
      (try clear ho0)
      (try clear ho1)
      obtain ⟨Ao43, co43, eo43⟩ := Kd.R_slice HO591.out
      (first | subst eo43 | (injection eo43 with f1_ f2_ f3_; have f4_ := f1_.symm; have f5_ := f3_.symm; clear f1_ f2_ f3_; subst f4_; subst f5_))
      obtain ⟨Ao44, co44, eo44⟩ := Kd.R_slice HO594.out
      (first | subst eo44 | (injection eo44 with f1_ f2_ f3_; have f4_ := f1_.symm; have f5_ := f3_.symm; clear f1_ f2_ f3_; subst f4_; subst f5_))
      refine hK.out _ _ ⟨(blk_cell BK582.out 0).trans rfl, (blk_cell BK582.out 1).trans rfl, (blk_cell BK582.out 2).trans rfl, (blk_cell BK562.out 0).trans rfl, (blk_cell BK562.out 1).trans rfl, (blk_cell BK562.out 2).trans rfl⟩ (fun hHeld => ?_)
      clear hK K
      refine norm_ (a' := ?_) ?_ ?_
      rotate_left
      ·show Act.put _ (some 47) _ = _
       simp only [Act.put, List.setIfInBounds_toArray, List.set_cons_zero, List.set_cons_succ, i64_w, i32_w]
       rfl
      refine one_ (i := 3) (N := some 48) #[true, true, true, true, false] rfl rfl (by kernel_rfl) (by decide) (fun K hK => ?_)
      refine goes_ Try.func15 (by kernel_rfl) rfl #[.agg #[.int .i64 t575, .slice Ao26 t576.length co26, .slice Ao27 t579.length co27], .agg #[.int .i64 t588, .slice Ao43 t589.length co43, .slice Ao44 t592.length co44]] (by rfl) rfl rfl qG ?_
      with_reducible refine (laws_eqCircuit.calls kj11 t575 _ _ t576 _ _ t579 t588 _ _ t589 _ _ t592 true _ ?side1 ?side2 ?side3 ?side4 ?side5 ?side6 ?side7 ?side8 A37.out).mono ?_
      (case side1 => repeat (first | exact (Kd.R_reads' HO_583001.out).2.2 | (with_reducible refine Kd.C_alloc ?_ _) | (with_reducible refine Kd.C_drewN ?_ _) | (with_reducible refine Kd.C_drew ?_)))
      (case side2 => exact (Kd.R_reads' HO_583001.out).2.1)
      (case side3 => repeat (first | exact (Kd.R_reads' HO_583002.out).2.2 | (with_reducible refine Kd.C_alloc ?_ _) | (with_reducible refine Kd.C_drewN ?_ _) | (with_reducible refine Kd.C_drew ?_)))
      (case side4 => exact (Kd.R_reads' HO_583002.out).2.1)
      (case side5 => repeat (first | exact (Kd.R_reads' HO591.out).2.2 | (with_reducible refine Kd.C_alloc ?_ _) | (with_reducible refine Kd.C_drewN ?_ _) | (with_reducible refine Kd.C_drew ?_)))
      (case side6 => exact (Kd.R_reads' HO591.out).2.1)
      (case side7 => repeat (first | exact (Kd.R_reads' HO594.out).2.2 | (with_reducible refine Kd.C_alloc ?_ _) | (with_reducible refine Kd.C_drewN ?_ _) | (with_reducible refine Kd.C_drew ?_)))
      (case side8 => exact (Kd.R_reads' HO594.out).2.1)
      rintro e w45 ⟨rfl, hb⟩
      refine ⟨_, rfl, ?_⟩
      have n0_ := Aside0.mk (Kd.R_below (qR HO_6.out) hb)
      have n1_ := Aside0.mk (Kd.R_below (qR HO_9.out) hb)
      have n2_ := Aside0.mk (Kd.R_below (qR HO_583001.out) hb)
      have n3_ := Aside0.mk (Kd.R_below (qR HO_583002.out) hb)
      have n4_ := Aside0.mk (Kd.R_below (qR HO591.out) hb)
      have n5_ := Aside0.mk (Kd.R_below (qR HO594.out) hb)
      have n6_ := Aside0.mk (blk_below (g := gb562) (o := .cells #[.int .i64 a0_0, .slice A0_1 l0_1.length c0_1, .slice A0_2 l0_2.length c0_2] 25 (0, 0)) (qK BK562.out) hb)
      have n7_ := Aside0.mk (blk_below (g := gb582) (o := .cells #[.int .i64 t575, .slice Ao26 t576.length co26, .slice Ao27 t579.length co27] 30 (0, 0)) (qK BK582.out) hb)
      have n8_ := Aside0.mk (below_step (qB) hb)
      clear HO_6
      clear HO_9
      clear HO_583001
      clear HO_583002
      clear HO591
      clear HO594
      clear BK562
      clear BK582
      clear HB
      have HO_6 := n0_
      have HO_9 := n1_
      have HO_583001 := n2_
      have HO_583002 := n3_
      have HO591 := n4_
      have HO594 := n5_
      have BK562 := n6_
      have BK582 := n7_
      have HB := n8_
      clear n0_ n1_ n2_ n3_ n4_ n5_ n6_ n7_ n8_
      (try clear hb)
      (try clear hb2)
      (try clear hk)
      (try clear hi)
      refine hK.out _ _ ⟨(blk_cell BK582.out 0).trans rfl, (blk_cell BK582.out 1).trans rfl, (blk_cell BK582.out 2).trans rfl, (blk_cell BK562.out 0).trans rfl, (blk_cell BK562.out 1).trans rfl, (blk_cell BK562.out 2).trans rfl⟩ (fun hHeld => ?_)
      clear hK K
      refine norm_ (a' := ?_) ?_ ?_
      rotate_left
      ·show Act.put _ (some 48) _ = _
       simp only [Act.put, List.setIfInBounds_toArray, List.set_cons_zero, List.set_cons_succ, i64_w, i32_w]
       rfl
      refine pure_ (i := 4) (N := some 49) (v := ?_) (a' := ?_) #[true, true, true, true, true] rfl rfl (by kernel_rfl) (fun _ _ _ h => h) (Or.inl ⟨by rfl, ?_⟩) ?_ ?_
      rotate_left
      ·intro w'
       go_simp
       with_reducible rfl
      rotate_left
      ·simp only [Act.put, List.setIfInBounds_toArray, List.set_cons_zero, List.set_cons_succ, i64_w, i32_w]
       rfl
      refine done_ (by kernel_rfl) ?_
      have hnb46 := NB582_562.out
      have hnc46 := NB562_582.out
      have hcz47_0 : w45.cell? ⟨gb582, 0, none⟩ = some (.int .i64 t575) := (blk_cell BK582.out 0).trans rfl
      have hcz47_1 : w45.cell? ⟨gb582, 1, none⟩ = some (.slice Ao26 t576.length co26) := (blk_cell BK582.out 1).trans rfl
      have hcz47_2 : w45.cell? ⟨gb582, 2, none⟩ = some (.slice Ao27 t579.length co27) := (blk_cell BK582.out 2).trans rfl
      have hfz47_0 := blk_frozen BK582.out 0
      have hfz47_1 := blk_frozen BK582.out 1
      have hfz47_2 := blk_frozen BK582.out 2
      go_upto_region 14 with (first | ((with_reducible refine gate_callee (f := 20) rfl ?_); refine goesL_ (some 52) rfl rfl Try.func20 (by kernel_rfl) rfl #[.agg #[.int .i64 t575, .slice Ao26 t576.length co26, .slice Ao27 t579.length co27], .int .i64 1] rfl qG ?_; (with_reducible refine (laws_markCircuit.calls kj11 t575 (fun k_ => some k_ = (.slice Ao26 t576.length co26 : Value).ownBlock) (.slice Ao26 t576.length co26) t576 (fun k_ => some k_ = (.slice Ao27 t579.length co27 : Value).ownBlock) (.slice Ao27 t579.length co27) t579 1 t596 t597 t598 w _ ?side1 ?side2 ?side3 A39.out).mono ?_); (case side1 => repeat (first | (with_reducible first | exact HB.out | apply below_alloc | apply pw_below_drewN | apply below_drew1 | refine below_set ?_ GE562.out | refine below_set ?_ GE582.out) | exact HB.out)); (case side2 => exact Kd.R_tight rfl HO_583001.out); (case side3 => exact Kd.R_tight rfl HO_583002.out); rintro e w48 ⟨rfl, hy0, hy1, hb, hkp⟩; refine ⟨_, rfl, ?_⟩; have n0_ := Aside0.mk (Kd.R_mono (ok' := fun k_ => some k_ ≠ (v584 : Value).ownBlock ∧ some k_ ≠ (.slice Ao27 t579.length co27 : Value).ownBlock ∧ some k_ ≠ (.slice Ao44 t592.length co44 : Value).ownBlock) (Kd.R_keptB ((Kd.R_apart' HO_6.out (Kd.R_typed HO_583001.out) (by decide))) hkp (fun k_ hk_ hs_ => Or.elim hs_ (fun e_ => (hk_.2) e_) (fun e_ => (hk_.1.1.2) e_))) (fun k_ hk_ => ⟨hk_.1.1.1.1, hk_.1.1.1.2, hk_.1.1.2⟩)); have n1_ := Aside0.mk (Kd.R_mono (ok' := fun k_ => some k_ ≠ (v572 : Value).ownBlock ∧ some k_ ≠ (.slice Ao27 t579.length co27 : Value).ownBlock ∧ some k_ ≠ (.slice Ao44 t592.length co44 : Value).ownBlock) (Kd.R_keptB ((Kd.R_apart' HO_9.out (Kd.R_typed HO_583001.out) (by decide))) hkp (fun k_ hk_ hs_ => Or.elim hs_ (fun e_ => (hk_.2) e_) (fun e_ => (hk_.1.1.2) e_))) (fun k_ hk_ => ⟨hk_.1.1.1.1, hk_.1.1.1.2, hk_.1.1.2⟩)); have n2_ := Aside0.mk (Kd.R_reok rfl hy0 (fun k_ e_ => HO_583001.out.1 k_ e_)); have n3_ := Aside0.mk (Kd.R_reok rfl hy1 (fun k_ e_ => HO_583002.out.1 k_ e_)); have n4_ := Aside0.mk (blk_kept BK562.out hkp (fun hs_ => Or.elim hs_ (fun e_ => (fun e_ => (Kd.R_ne HO_583001.out BK562.out (by decide)) e_) e_) (fun e_ => (fun e_ => (Kd.R_ne HO_583002.out BK562.out (by decide)) e_) e_))); have n5_ := Aside0.mk (blk_kept BK582.out hkp (fun hs_ => Or.elim hs_ (fun e_ => (fun e_ => (Kd.R_ne HO_583001.out BK582.out (by decide)) e_) e_) (fun e_ => (fun e_ => (Kd.R_ne HO_583002.out BK582.out (by decide)) e_) e_))); have n6_ := Aside0.mk (Kd.R_mono (ok' := fun k_ => some k_ ≠ (.slice Ao26 t576.length co26 : Value).ownBlock) (Kd.R_keptB ((Kd.R_apart' HO591.out (Kd.R_typed HO_583002.out) (by decide))) hkp (fun k_ hk_ hs_ => Or.elim hs_ (fun e_ => (hk_.1.2) e_) (fun e_ => (hk_.2) e_))) (fun k_ hk_ => hk_.1.1.2)); have n7_ := Aside0.mk (Kd.R_mono (ok' := fun k_ => some k_ ≠ (v572 : Value).ownBlock ∧ some k_ ≠ (v584 : Value).ownBlock ∧ some k_ ≠ (.slice Ao27 t579.length co27 : Value).ownBlock) (Kd.R_keptB ((Kd.R_apart' HO594.out (Kd.R_typed HO_583001.out) (by decide))) hkp (fun k_ hk_ hs_ => Or.elim hs_ (fun e_ => (hk_.2) e_) (fun e_ => (hk_.1.2) e_))) (fun k_ hk_ => ⟨hk_.1.1.1.1.2, hk_.1.1.1.2, hk_.1.1.2⟩)); have n8_ := Aside0.mk (hb); clear HO_6; clear HO_9; clear HO_583001; clear HO_583002; clear BK562; clear BK582; clear HO591; clear HO594; clear HB; have HO_6 := n0_; have HO_9 := n1_; have HO_583001 := n2_; have HO_583002 := n3_; have BK562 := n4_; have BK582 := n5_; have HO591 := n6_; have HO594 := n7_; have HB := n8_; clear n0_ n1_ n2_ n3_ n4_ n5_ n6_ n7_ n8_; (try clear hb); (try clear hkp); (try clear hy0); (try clear hy1)))
      (try simp only [Act.put, List.setIfInBounds_toArray, List.set_cons_zero, List.set_cons_succ])
      go_cut [65] (fun v65 wc => ∃ (kq : Nat) (x65_39 : Bool), v65 = .bool x65_39 ∧ Aside0 (laws_FnExactConeOf.j1 kq a1 t571 t574 t583 x65_39 a0_0 l0_1 l0_2 = some true) ∧ Aside0 (kq ≤ kj11) ∧ Aside0 (Kd.R (Kd.int .i64) 3 wc w.heap.size (fun k_ => some k_ ≠ (v584 : Value).ownBlock ∧ some k_ ≠ ((.slice Ao27 t579.length co27) : Value).ownBlock) v572 t571) ∧ Aside0 (Kd.R (Kd.int .i64) 3 wc w.heap.size (fun k_ => some k_ ≠ (v572 : Value).ownBlock ∧ some k_ ≠ ((.slice Ao27 t579.length co27) : Value).ownBlock) v584 t583) ∧ Aside0 (Kd.R k59 59 wc w.heap.size (fun _ => True) (.slice Ao26 t576.length co26) t597) ∧ Aside0 (Kd.R (Kd.int .i64) 3 wc w.heap.size (fun k_ => some k_ ≠ (v572 : Value).ownBlock ∧ some k_ ≠ (v584 : Value).ownBlock) (.slice Ao27 t579.length co27) t598) ∧ Aside0 (wc.heap[gb562]? = some (.cells #[.int .i64 a0_0, (.slice A0_1 l0_1.length c0_1), (.slice A0_2 l0_2.length c0_2)] 25 (0, 0))) ∧ Aside0 (wc.heap[gb582]? = some (.cells #[.int .i64 t575, (.slice Ao26 t576.length co26), (.slice Ao27 t579.length co27)] 30 (0, 0))) ∧ Aside0 (Below w.heap.size w wc))
      case first =>
       have H := HC40.out
       clear HC40
       by_cases c49 : t596 < 0
       ·rw [if_pos c49] at H
        exact absurd H (by cases kj11 <;> simp [laws_FnExactConeOf.j1])
       ·rw [if_neg c49] at H
        have c49b0 : decide (t596 < 0) = false := decide_eq_false c49
        clear c49
        (first | rw [c49b0] | (simp only [i64_w, i32_w]; rw [c49b0]) | skip)
        replace H := Option.bind_eq_some_iff.mp H
        obtain ⟨t599, A500, H⟩ := H
        replace H : (if t599 = true then (laws_FnExactConeOf.j1 kj11 a1 t571 t574 t583 (t586 != t574) a0_0 l0_1 l0_2) else (laws_FnExactConeOf.j1 kj11 a1 t571 t574 t583 true a0_0 l0_1 l0_2)) = some true := H
        have A50 := Aside0.mk A500
        clear A500
        by_cases c51 : t599 = true
        ·subst c51
         have H1 : (laws_FnExactConeOf.j1 kj11 a1 t571 t574 t583 (t586 != t574) a0_0 l0_1 l0_2) = some true := by rw [if_pos rfl] at H; exact H
         clear H
         have H := H1
         clear H1
         have H' := Aside0.mk H
         clear H
         obtain ⟨Ao52, co52, eo52⟩ := Kd.R_slice HO_9.out
         subst eo52
         obtain ⟨Ao53, co53, eo53⟩ := Kd.R_slice HO_6.out
         subst eo53
         go_wp2_with (first | (go_at_call 27; (with_reducible refine (laws_eqIntS.calls kj11 _ _ t583 _ _ t571 true _ ?side1 ?side2 ?side3 ?side4 A50.out).mono ?_); (case side1 => repeat (first | exact (Kd.R_reads' HO_9.out).2.2 | (with_reducible refine Kd.C_alloc ?_ _) | (with_reducible refine Kd.C_drewN ?_ _) | (with_reducible refine Kd.C_drew ?_))); (case side2 => exact (Kd.R_reads' HO_9.out).2.1); (case side3 => repeat (first | exact (Kd.R_reads' HO_6.out).2.2 | (with_reducible refine Kd.C_alloc ?_ _) | (with_reducible refine Kd.C_drewN ?_ _) | (with_reducible refine Kd.C_drew ?_))); (case side4 => exact (Kd.R_reads' HO_6.out).2.1); rintro e w' ⟨rfl, ⟨nd, rfl⟩⟩))
         go_meet
         case rel => exact ⟨_, ((t586 != t574)), qS, H', ⟨by have := HJ11.out; first | omega | exact Nat.le_refl _⟩, ⟨by (with_reducible repeat (first | apply Kd.R_alloc | apply Kd.R_drewN | apply Kd.R_drew)); exact Kd.R_mono HO_6.out (fun _ hk => ⟨hk.1, hk.2.1⟩)⟩, ⟨by (with_reducible repeat (first | apply Kd.R_alloc | apply Kd.R_drewN | apply Kd.R_drew)); exact Kd.R_mono HO_9.out (fun _ hk => ⟨hk.1, hk.2.1⟩)⟩, ⟨by (with_reducible repeat (first | apply Kd.R_alloc | apply Kd.R_drewN | apply Kd.R_drew)); exact Kd.R_mono HO_583001.out (fun _ hk => trivial)⟩, ⟨by (with_reducible repeat (first | apply Kd.R_alloc | apply Kd.R_drewN | apply Kd.R_drew)); exact Kd.R_mono HO_583002.out (fun _ hk => ⟨hk.1.1, hk.1.2⟩)⟩, ⟨by exact qK BK562.out⟩, ⟨by exact qK BK582.out⟩, ⟨qB⟩⟩
        ·replace c51 := Bool.eq_false_iff.mpr c51
         subst c51
         have H1 : (laws_FnExactConeOf.j1 kj11 a1 t571 t574 t583 true a0_0 l0_1 l0_2) = some true := by rw [if_neg (show ¬ (false = true) by decide)] at H; exact H
         exact absurd H1 (by cases kj11 <;> simp [laws_FnExactConeOf.j1])
      case rest =>
       clear HC40
       try clear c1
       try clear c2
       try clear p2
       try clear c3
       try clear c4
       try clear c4b0
       try clear c5
       try clear c6
       try clear c11
       try clear c13
       try clear c15
       try clear c20
       try clear c24
       try clear c25
       try clear c26
       try clear c27
       try clear c30
       try clear c35
       try clear c38
       try clear c46
       try clear c49
       try clear c49b0
       try clear c51
       try clear hcz14_0
       try clear hcz14_1
       try clear hcz14_2
       try clear hcz16_0
       try clear hcz16_1
       try clear hcz16_2
       try clear hcz21_0
       try clear hcz21_1
       try clear hcz21_2
       try clear hcz25_0
       try clear hcz25_1
       try clear hcz25_2
       try clear hcz47_0
       try clear hcz47_1
       try clear hcz47_2
       try clear hcz6_0
       try clear hcz6_1
       try clear hcz6_2
       try clear hfz14_0
       try clear hfz14_1
       try clear hfz14_2
       try clear hfz16_0
       try clear hfz16_1
       try clear hfz16_2
       try clear hfz21_0
       try clear hfz21_1
       try clear hfz21_2
       try clear hfz25_0
       try clear hfz25_1
       try clear hfz25_2
       try clear hfz47_0
       try clear hfz47_1
       try clear hfz47_2
       try clear hfz6_0
       try clear hfz6_1
       try clear hfz6_2
       try clear p2
       obtain ⟨kq, x65_39, rfl, HA, HJ39, HO_6, HO_9, HO_583001, HO_583002, BK562, BK582, HB⟩ := hcut
       have hl583001_39 := (Kd.R_reads' HO_583001.out).1
       rw [hl583001_39] at HO_583001
       (try simp only [hl583001_39])
       (try simp only [hl583001_39] at BK562)
       (try simp only [hl583001_39] at BK582)
       (try simp only [hl583001_39] at HO_6)
       (try simp only [hl583001_39] at HO_9)
       (try simp only [hl583001_39] at HO_583002)
       have hl583002_39 := (Kd.R_reads' HO_583002.out).1
       rw [hl583002_39] at HO_583002
       (try simp only [hl583002_39])
       (try simp only [hl583002_39] at BK562)
       (try simp only [hl583002_39] at BK582)
       (try simp only [hl583002_39] at HO_6)
       (try simp only [hl583002_39] at HO_9)
       (try simp only [hl583002_39] at HO_583001)
       cases kq with
       | zero => exact absurd HA.out (by simp [laws_FnExactConeOf.j1])
       | succ kj39 =>
        have H := HA.out
        clear HA
        simp only [laws_FnExactConeOf.j1] at H
        by_cases c56 : x65_39 = true
        ·subst c56
         have H1 : (some false) = some true := by rw [if_pos rfl] at H; exact H
         exact absurd H1 (by simp)
        ·replace c56 := Bool.eq_false_iff.mpr c56
         subst c56
         have H1 : ((laws_markIntS.f kj39 t583 1).bind fun bt600 => ((laws_heldIntS.f kj39 bt600.2 1).bind fun t602 => (if t602 < 0 then (some false) else (if t602 = bt600.1 then ((laws_toCircuit.f kj39 a0_0 l0_1 l0_2).bind fun bt603 => ((impl_ConeOf.f kj39 bt603.1 bt603.2.1 bt603.2.2 a1).bind fun bt610 => ((laws_eqIntS.f kj39 bt610.1 t571).bind fun t614 => (if t614 = true then (laws_FnExactConeOf.j2 kj39 bt600.2 bt600.1 (bt610.2 != t574)) else (laws_FnExactConeOf.j2 kj39 bt600.2 bt600.1 true))))) else (some false))))) = some true := by rw [if_neg (show ¬ (false = true) by decide)] at H; exact H
         clear H
         have H := H1
         clear H1
         replace H := Option.bind_eq_some_iff.mp H
         obtain ⟨⟨t600, t601⟩, A570, H⟩ := H
         replace H : ((laws_heldIntS.f kj39 t601 1).bind fun t602 => (if t602 < 0 then (some false) else (if t602 = t600 then ((laws_toCircuit.f kj39 a0_0 l0_1 l0_2).bind fun bt603 => ((impl_ConeOf.f kj39 bt603.1 bt603.2.1 bt603.2.2 a1).bind fun bt610 => ((laws_eqIntS.f kj39 bt610.1 t571).bind fun t614 => (if t614 = true then (laws_FnExactConeOf.j2 kj39 t601 t600 (bt610.2 != t574)) else (laws_FnExactConeOf.j2 kj39 t601 t600 true))))) else (some false)))) = some true := H
         have A57 := Aside0.mk A570
         clear A570
         replace H := Option.bind_eq_some_iff.mp H
         obtain ⟨t602, A580, H⟩ := H
         replace H : (if t602 < 0 then (some false) else (if t602 = t600 then ((laws_toCircuit.f kj39 a0_0 l0_1 l0_2).bind fun bt603 => ((impl_ConeOf.f kj39 bt603.1 bt603.2.1 bt603.2.2 a1).bind fun bt610 => ((laws_eqIntS.f kj39 bt610.1 t571).bind fun t614 => (if t614 = true then (laws_FnExactConeOf.j2 kj39 t601 t600 (bt610.2 != t574)) else (laws_FnExactConeOf.j2 kj39 t601 t600 true))))) else (some false))) = some true := H
         have A58 := Aside0.mk A580
         clear A580
         by_cases c59 : t602 < 0
         ·rw [if_pos c59] at H
          exact absurd H (by simp)
         ·rw [if_neg c59] at H
          have c59b0 : decide (t602 < 0) = false := decide_eq_false c59
          clear c59
          by_cases c62 : t602 = t600
          ·rw [if_pos c62] at H
           have c62b0 : (t602 == t600) = true := beq_iff_eq.mpr c62
           have c62b1 : (t602 != t600) = false := bne_eq_false_iff_eq.mpr c62
           clear c62
           replace H := Option.bind_eq_some_iff.mp H
           obtain ⟨⟨t603, t604, t607⟩, A630, H⟩ := H
           replace H : ((impl_ConeOf.f kj39 t603 t604 t607 a1).bind fun bt610 => ((laws_eqIntS.f kj39 bt610.1 t571).bind fun t614 => (if t614 = true then (laws_FnExactConeOf.j2 kj39 t601 t600 (bt610.2 != t574)) else (laws_FnExactConeOf.j2 kj39 t601 t600 true)))) = some true := H
           have A63 := Aside0.mk A630
           clear A630
           replace H := Option.bind_eq_some_iff.mp H
           obtain ⟨⟨t610, t613⟩, A640, H⟩ := H
           replace H : ((laws_eqIntS.f kj39 t610 t571).bind fun t614 => (if t614 = true then (laws_FnExactConeOf.j2 kj39 t601 t600 (t613 != t574)) else (laws_FnExactConeOf.j2 kj39 t601 t600 true))) = some true := H
           have A64 := Aside0.mk A640
           clear A640
           have HC65 := Aside0.mk H
           clear H
           obtain ⟨Ao66, co66, eo66⟩ := Kd.R_slice HO_9.out
           subst eo66
           go_upto_region 25 with (first | ((with_reducible refine gate_callee (f := 28) rfl ?_); refine goesL_ (some 68) rfl rfl Try.func28 (by kernel_rfl) rfl #[.slice Ao66 t583.length co66, .int .i64 1] rfl qG ?_; (with_reducible refine (laws_markIntS.calls kj39 (fun k_ => some k_ = (.slice Ao66 t583.length co66 : Value).ownBlock) (.slice Ao66 t583.length co66) t583 1 t600 t601 w _ ?side1 ?side2 A57.out).mono ?_); (case side1 => repeat (first | (with_reducible first | exact HB.out | apply below_alloc | apply pw_below_drewN | apply below_drew1 | refine below_set ?_ GE562.out | refine below_set ?_ GE582.out) | exact HB.out)); (case side2 => exact Kd.R_tight rfl HO_9.out); rintro e w67 ⟨rfl, hy0, hb, hkp⟩; refine ⟨_, rfl, ?_⟩; have n0_ := Aside0.mk (Kd.R_mono (ok' := fun k_ => some k_ ≠ (.slice Ao66 t583.length co66 : Value).ownBlock ∧ some k_ ≠ (.slice Ao27 t598.length co27 : Value).ownBlock) (Kd.R_keptB (HO_6.out) hkp (fun k_ hk_ hs_ => (hk_.1) hs_)) (fun k_ hk_ => ⟨hk_.1.1, hk_.1.2⟩)); have n1_ := Aside0.mk (Kd.R_reok rfl hy0 (fun k_ e_ => HO_9.out.1 k_ e_)); have n2_ := Aside0.mk (Kd.R_mono (ok' := fun k_ => True) (Kd.R_keptB ((Kd.R_apart' HO_583001.out (Kd.R_typed HO_9.out) (by decide))) hkp (fun k_ hk_ hs_ => (hk_.2) hs_)) (fun k_ hk_ => trivial)); have n3_ := Aside0.mk (Kd.R_mono (ok' := fun k_ => some k_ ≠ (v572 : Value).ownBlock ∧ some k_ ≠ (.slice Ao66 t583.length co66 : Value).ownBlock) (Kd.R_keptB (HO_583002.out) hkp (fun k_ hk_ hs_ => (hk_.2) hs_)) (fun k_ hk_ => ⟨hk_.1.1, hk_.1.2⟩)); have n4_ := Aside0.mk (blk_kept BK562.out hkp (fun hs_ => (fun e_ => (Kd.R_ne HO_9.out BK562.out (by decide)) e_) hs_)); have n5_ := Aside0.mk (blk_kept BK582.out hkp (fun hs_ => (fun e_ => (Kd.R_ne HO_9.out BK582.out (by decide)) e_) hs_)); have n6_ := Aside0.mk (hb); clear HO_6; clear HO_9; clear HO_583001; clear HO_583002; clear BK562; clear BK582; clear HB; have HO_6 := n0_; have HO_9 := n1_; have HO_583001 := n2_; have HO_583002 := n3_; have BK562 := n4_; have BK582 := n5_; have HB := n6_; clear n0_ n1_ n2_ n3_ n4_ n5_ n6_; (try clear hb); (try clear hkp); (try clear hy0)) | ((with_reducible refine gate_callee (f := 29) rfl ?_); refine goesL_ (some 71) rfl rfl Try.func29 (by kernel_rfl) rfl #[.slice Ao66 t601.length co66, .int .i64 1] rfl (by (try simp only [List.map_toArray, List.map_cons, List.map_nil]); first | done | (rw [show t601.length = t583.length from (Kd.R_reads' HO_9.out).1.symm] <;> rfl) | rfl | (simp only [List.length_drop, List.length_take]; rfl)) ?_; (with_reducible refine (laws_heldIntS.calls kj39 _ _ t601 1 t602 _ ?side1 ?side2 A58.out).mono ?_); (case side1 => repeat (first | exact (Kd.R_reads' HO_9.out).2.2 | (with_reducible refine Kd.C_alloc ?_ _) | (with_reducible refine Kd.C_drewN ?_ _) | (with_reducible refine Kd.C_drew ?_))); (case side2 => rw [show t601.length = t583.length from (Kd.R_reads' HO_9.out).1.symm]; exact (Kd.R_reads' HO_9.out).2.1); rintro e w' ⟨rfl, ⟨nd, rfl⟩⟩; refine ⟨_, rfl, ?_⟩; have hnb68 := NB562_582.out; have hnc68 := NB582_562.out; have hcz69_0 : w67.cell? ⟨gb562, 0, none⟩ = some (.int .i64 a0_0) := (blk_cell BK562.out 0).trans rfl; have hcz69_1 : w67.cell? ⟨gb562, 1, none⟩ = some (.slice A0_1 l0_1.length c0_1) := (blk_cell BK562.out 1).trans rfl; have hcz69_2 : w67.cell? ⟨gb562, 2, none⟩ = some (.slice A0_2 l0_2.length c0_2) := (blk_cell BK562.out 2).trans rfl; have hfz69_0 := blk_frozen BK562.out 0; have hfz69_1 := blk_frozen BK562.out 1; have hfz69_2 := blk_frozen BK562.out 2) | ((with_reducible refine gate_callee (f := 13) rfl ?_); refine goesL_ (some 79) rfl rfl Try.func13 (by kernel_rfl) rfl #[.agg #[.int .i64 a0_0, .slice A0_1 l0_1.length c0_1, .slice A0_2 l0_2.length c0_2]] rfl qG ?_; (with_reducible refine (laws_toCircuit.calls kj39 a0_0 _ _ l0_1 _ _ l0_2 t603 t604 t607 _ ?side1 ?side2 ?side3 ?side4 A63.out).mono ?_); (case side1 => repeat (first | exact (Kd.C_below HR0_1.out (qB)) | (with_reducible refine Kd.C_alloc ?_ _) | (with_reducible refine Kd.C_drewN ?_ _) | (with_reducible refine Kd.C_drew ?_))); (case side2 => exact HC0_1.out); (case side3 => repeat (first | exact (Kd.C_below HR0_2.out (qB)) | (with_reducible refine Kd.C_alloc ?_ _) | (with_reducible refine Kd.C_drewN ?_ _) | (with_reducible refine Kd.C_drew ?_))); (case side4 => exact HC0_2.out); rintro e w70 ⟨v605, v608, rfl, ho0, ho1, hb⟩; refine ⟨_, rfl, ?_⟩; have n0_ := Aside0.mk (Kd.R_elder' (qR HO_6.out) (Kd.R_base ho1) hb); have n1_ := Aside0.mk (Kd.R_elder' (qR HO_9.out) (Kd.R_base ho1) hb); have n2_ := Aside0.mk (Kd.R_elder' (qR HO_583001.out) (Kd.R_base ho0) hb); have n3_ := Aside0.mk (Kd.R_elder' (qR HO_583002.out) (Kd.R_base ho1) hb); have n4_ := Aside0.mk (Kd.R_lower (Kd.R_new' ho0 (Kd.R_lt (qR HO_583001.out))) (below_size (qB))); have n5_ := Aside0.mk (Kd.R_lower (Kd.R_new' (Kd.R_new' (Kd.R_new' ho1 (Kd.R_lt (qR HO_6.out))) (Kd.R_lt (qR HO_9.out))) (Kd.R_lt (qR HO_583002.out))) (below_size (qB))); have n6_ := Aside0.mk (blk_below (g := gb562) (o := .cells #[.int .i64 a0_0, .slice A0_1 l0_1.length c0_1, .slice A0_2 l0_2.length c0_2] 25 (0, 0)) (qK BK562.out) hb); have n7_ := Aside0.mk (blk_below (g := gb582) (o := .cells #[.int .i64 t575, .slice Ao26 t597.length co26, .slice Ao27 t598.length co27] 30 (0, 0)) (qK BK582.out) hb); have n8_ := Aside0.mk (below_step (qB) hb); clear HO_6; clear HO_9; clear HO_583001; clear HO_583002; clear BK562; clear BK582; clear HB; have HO_6 := n0_; have HO_9 := n1_; have HO_583001 := n2_; have HO_583002 := n3_; have HO606 := n4_; have HO609 := n5_; have BK562 := n6_; have BK582 := n7_; have HB := n8_; clear n0_ n1_ n2_ n3_ n4_ n5_ n6_ n7_ n8_; (try clear hb); (try clear hb2); (try clear hk); (try clear hi); (try clear ho0); (try clear ho1); obtain ⟨Ao71, co71, eo71⟩ := Kd.R_slice HO606.out; subst eo71; obtain ⟨Ao72, co72, eo72⟩ := Kd.R_slice HO609.out; subst eo72) | ((with_reducible refine gate_callee (f := 26) rfl ?_); refine goesL_ (some 81) rfl rfl Try.func26 (by kernel_rfl) rfl #[.agg #[.int .i64 t603, .slice Ao71 t604.length co71, .slice Ao72 t607.length co72], .int .i64 a1] rfl qG ?_; (with_reducible refine (impl_ConeOf.calls kj39 t603 _ _ t604 _ _ t607 a1 t610 t613 _ ?side1 ?side2 ?side3 ?side4 A64.out).mono ?_); (case side1 => repeat (first | exact (Kd.R_reads' HO606.out).2.2 | (with_reducible refine Kd.C_alloc ?_ _) | (with_reducible refine Kd.C_drewN ?_ _) | (with_reducible refine Kd.C_drew ?_))); (case side2 => exact (Kd.R_reads' HO606.out).2.1); (case side3 => repeat (first | exact (Kd.R_reads' HO609.out).2.2 | (with_reducible refine Kd.C_alloc ?_ _) | (with_reducible refine Kd.C_drewN ?_ _) | (with_reducible refine Kd.C_drew ?_))); (case side4 => exact (Kd.R_reads' HO609.out).2.1); rintro e w73 ⟨v611, rfl, ho0, hb⟩; refine ⟨_, rfl, ?_⟩; have n0_ := Aside0.mk (Kd.R_elder' (qR HO_6.out) (Kd.R_base ho0) hb); have n1_ := Aside0.mk (Kd.R_elder' (qR HO_9.out) (Kd.R_base ho0) hb); have n2_ := Aside0.mk (Kd.R_below (qR HO_583001.out) hb); have n3_ := Aside0.mk (Kd.R_elder' (qR HO_583002.out) (Kd.R_base ho0) hb); have n4_ := Aside0.mk (Kd.R_below (qR HO606.out) hb); have n5_ := Aside0.mk (Kd.R_elder' (qR HO609.out) (Kd.R_base ho0) hb); have n6_ := Aside0.mk (Kd.R_lower (Kd.R_new' (Kd.R_new' (Kd.R_new' (Kd.R_new' ho0 (Kd.R_lt (qR HO_6.out))) (Kd.R_lt (qR HO_9.out))) (Kd.R_lt (qR HO_583002.out))) (Kd.R_lt (qR HO609.out))) (below_size (qB))); have n7_ := Aside0.mk (blk_below (g := gb562) (o := .cells #[.int .i64 a0_0, .slice A0_1 l0_1.length c0_1, .slice A0_2 l0_2.length c0_2] 25 (0, 0)) (qK BK562.out) hb); have n8_ := Aside0.mk (blk_below (g := gb582) (o := .cells #[.int .i64 t575, .slice Ao26 t597.length co26, .slice Ao27 t598.length co27] 30 (0, 0)) (qK BK582.out) hb); have n9_ := Aside0.mk (below_step (qB) hb); clear HO_6; clear HO_9; clear HO_583001; clear HO_583002; clear HO606; clear HO609; clear BK562; clear BK582; clear HB; have HO_6 := n0_; have HO_9 := n1_; have HO_583001 := n2_; have HO_583002 := n3_; have HO606 := n4_; have HO609 := n5_; have HO612 := n6_; have BK562 := n7_; have BK582 := n8_; have HB := n9_; clear n0_ n1_ n2_ n3_ n4_ n5_ n6_ n7_ n8_ n9_; (try clear hb); (try clear hb2); (try clear hk); (try clear hi); (try clear ho0)))
           (try simp only [Act.put, List.setIfInBounds_toArray, List.set_cons_zero, List.set_cons_succ])
           go_cut [92] (fun v92 wc => ∃ (kq : Nat) (x92_64 : Bool), v92 = .bool x92_64 ∧ Aside0 (laws_FnExactConeOf.j2 kq t601 t600 x92_64 = some true) ∧ Aside0 (kq ≤ kj39) ∧ Aside0 (Kd.R (Kd.int .i64) 3 wc w.heap.size (fun k_ => some k_ ≠ ((.slice Ao27 t598.length co27) : Value).ownBlock) (.slice Ao66 t583.length co66) t601) ∧ Aside0 (Kd.R k59 59 wc w.heap.size (fun _ => True) (.slice Ao26 t597.length co26) t597) ∧ Aside0 (Kd.R (Kd.int .i64) 3 wc w.heap.size (fun k_ => some k_ ≠ ((.slice Ao66 t583.length co66) : Value).ownBlock) (.slice Ao27 t598.length co27) t598) ∧ Aside0 (wc.heap[gb562]? = some (.cells #[.int .i64 a0_0, (.slice A0_1 l0_1.length c0_1), (.slice A0_2 l0_2.length c0_2)] 25 (0, 0))) ∧ Aside0 (wc.heap[gb582]? = some (.cells #[.int .i64 t575, (.slice Ao26 t597.length co26), (.slice Ao27 t598.length co27)] 30 (0, 0))) ∧ Aside0 (Below w.heap.size w wc))
           case first =>
            have H := HC65.out
            clear HC65
            replace H := Option.bind_eq_some_iff.mp H
            obtain ⟨t614, A740, H⟩ := H
            replace H : (if t614 = true then (laws_FnExactConeOf.j2 kj39 t601 t600 (t613 != t574)) else (laws_FnExactConeOf.j2 kj39 t601 t600 true)) = some true := H
            have A74 := Aside0.mk A740
            clear A740
            by_cases c75 : t614 = true
            ·subst c75
             have H1 : (laws_FnExactConeOf.j2 kj39 t601 t600 (t613 != t574)) = some true := by rw [if_pos rfl] at H; exact H
             clear H
             have H := H1
             clear H1
             have H' := Aside0.mk H
             clear H
             obtain ⟨Ao76, co76, eo76⟩ := Kd.R_slice HO612.out
             subst eo76
             obtain ⟨Ao77, co77, eo77⟩ := Kd.R_slice HO_6.out
             subst eo77
             go_wp2_with (first | ((with_reducible refine gate_callee (f := 27) rfl ?_); refine goesL_ (some 86) rfl rfl Try.func27 (by kernel_rfl) rfl #[.slice Ao76 t610.length co76, .slice Ao77 t571.length co77] rfl qG ?_; (with_reducible refine (laws_eqIntS.calls kj39 _ _ t610 _ _ t571 true _ ?side1 ?side2 ?side3 ?side4 A74.out).mono ?_); (case side1 => repeat (first | exact (Kd.R_reads' HO612.out).2.2 | (with_reducible refine Kd.C_alloc ?_ _) | (with_reducible refine Kd.C_drewN ?_ _) | (with_reducible refine Kd.C_drew ?_))); (case side2 => exact (Kd.R_reads' HO612.out).2.1); (case side3 => repeat (first | exact (Kd.R_reads' HO_6.out).2.2 | (with_reducible refine Kd.C_alloc ?_ _) | (with_reducible refine Kd.C_drewN ?_ _) | (with_reducible refine Kd.C_drew ?_))); (case side4 => exact (Kd.R_reads' HO_6.out).2.1); rintro e w' ⟨rfl, ⟨nd, rfl⟩⟩; refine ⟨_, rfl, ?_⟩))
             go_meet
             case rel => exact ⟨_, ((t613 != t574)), qS, H', ⟨by have := HJ11.out; have := HJ39.out; first | omega | exact Nat.le_refl _⟩, ⟨by (try simp only [hl583001_39]); (try simp only [hl583002_39]); (with_reducible repeat (first | apply Kd.R_alloc | apply Kd.R_drewN | apply Kd.R_drew)); exact Kd.R_mono HO_9.out (fun _ hk => hk.1.1.2)⟩, ⟨by (try simp only [hl583001_39]); (try simp only [hl583002_39]); (with_reducible repeat (first | apply Kd.R_alloc | apply Kd.R_drewN | apply Kd.R_drew)); exact Kd.R_mono HO_583001.out (fun _ hk => trivial)⟩, ⟨by (try simp only [hl583001_39]); (try simp only [hl583002_39]); (with_reducible repeat (first | apply Kd.R_alloc | apply Kd.R_drewN | apply Kd.R_drew)); exact Kd.R_mono HO_583002.out (fun _ hk => hk.1.1.2)⟩, ⟨by (try simp only [hl583001_39]); (try simp only [hl583002_39]); exact qK BK562.out⟩, ⟨by (try simp only [hl583001_39]); (try simp only [hl583002_39]); exact qK BK582.out⟩, ⟨qB⟩⟩
            ·replace c75 := Bool.eq_false_iff.mpr c75
             subst c75
             have H1 : (laws_FnExactConeOf.j2 kj39 t601 t600 true) = some true := by rw [if_neg (show ¬ (false = true) by decide)] at H; exact H
             exact absurd H1 (by cases kj39 <;> simp [laws_FnExactConeOf.j2])
           case rest =>
            clear HC65
            try clear c1
            try clear c2
            try clear p2
            try clear c3
            try clear c4
            try clear c4b0
            try clear c5
            try clear c6
            try clear c7
            try clear c11
            try clear c13
            try clear c15
            try clear c20
            try clear c24
            try clear c25
            try clear c26
            try clear c27
            try clear c28
            try clear c29
            try clear c30
            try clear c35
            try clear c38
            try clear c46
            try clear c49
            try clear c49b0
            try clear c51
            try clear c56
            try clear c59
            try clear c59b0
            try clear c62
            try clear c62b0
            try clear c62b1
            try clear c68
            try clear c75
            try clear hcz14_0
            try clear hcz14_1
            try clear hcz14_2
            try clear hcz16_0
            try clear hcz16_1
            try clear hcz16_2
            try clear hcz21_0
            try clear hcz21_1
            try clear hcz21_2
            try clear hcz25_0
            try clear hcz25_1
            try clear hcz25_2
            try clear hcz47_0
            try clear hcz47_1
            try clear hcz47_2
            try clear hcz69_0
            try clear hcz69_1
            try clear hcz69_2
            try clear hcz6_0
            try clear hcz6_1
            try clear hcz6_2
            try clear hfz14_0
            try clear hfz14_1
            try clear hfz14_2
            try clear hfz16_0
            try clear hfz16_1
            try clear hfz16_2
            try clear hfz21_0
            try clear hfz21_1
            try clear hfz21_2
            try clear hfz25_0
            try clear hfz25_1
            try clear hfz25_2
            try clear hfz47_0
            try clear hfz47_1
            try clear hfz47_2
            try clear hfz69_0
            try clear hfz69_1
            try clear hfz69_2
            try clear hfz6_0
            try clear hfz6_1
            try clear hfz6_2
            try clear p2
            obtain ⟨kq, x92_64, rfl, HA, HJ64, HO_9, HO_583001, HO_583002, BK562, BK582, HB⟩ := hcut
            have hl9_64 := (Kd.R_reads' HO_9.out).1
            rw [hl9_64] at HO_9
            (try simp only [hl9_64])
            (try simp only [hl9_64] at BK562)
            (try simp only [hl9_64] at BK582)
            (try simp only [hl9_64] at HO_583001)
            (try simp only [hl9_64] at HO_583002)
            cases kq with
            | zero => exact absurd HA.out (by simp [laws_FnExactConeOf.j2])
            | succ kj64 =>
             have H := HA.out
             clear HA
             simp only [laws_FnExactConeOf.j2] at H
             by_cases c80 : x92_64 = true
             ·subst c80
              have H1 : (some false) = some true := by rw [if_pos rfl] at H; exact H
              exact absurd H1 (by simp)
             ·replace c80 := Bool.eq_false_iff.mpr c80
              subst c80
              have H1 : ((laws_heldIntS.f kj64 t601 1).bind fun t615 => (if t615 < 0 then (some false) else (if t615 = t600 then (some true) else (some false)))) = some true := by rw [if_neg (show ¬ (false = true) by decide)] at H; exact H
              clear H
              have H := H1
              clear H1
              replace H := Option.bind_eq_some_iff.mp H
              obtain ⟨t615, A810, H⟩ := H
              replace H : (if t615 < 0 then (some false) else (if t615 = t600 then (some true) else (some false))) = some true := H
              have A81 := Aside0.mk A810
              clear A810
              by_cases c82 : t615 < 0
              ·rw [if_pos c82] at H
               exact absurd H (by simp)
              ·rw [if_neg c82] at H
               have c82b0 : decide (t615 < 0) = false := decide_eq_false c82
               clear c82
               by_cases c83 : t615 = t600
               ·rw [if_pos c83] at H
                have c83b0 : (t615 == t600) = true := beq_iff_eq.mpr c83
                have c83b1 : (t615 != t600) = false := bne_eq_false_iff_eq.mpr c83
                clear c83
                go_wp2_with (first | ((with_reducible refine gate_callee (f := 29) rfl ?_); refine goesL_ (some 95) rfl rfl Try.func29 (by kernel_rfl) rfl #[.slice Ao66 t601.length co66, .int .i64 1] rfl qG ?_; (with_reducible refine (laws_heldIntS.calls kj64 _ _ t601 1 t615 _ ?side1 ?side2 A81.out).mono ?_); (case side1 => repeat (first | exact (Kd.R_reads' HO_9.out).2.2 | (with_reducible refine Kd.C_alloc ?_ _) | (with_reducible refine Kd.C_drewN ?_ _) | (with_reducible refine Kd.C_drew ?_))); (case side2 => exact (Kd.R_reads' HO_9.out).2.1); rintro e w' ⟨rfl, ⟨nd, rfl⟩⟩; refine ⟨_, rfl, ?_⟩))
                go_ret
                exact ⟨qE, qB⟩
               ·rw [if_neg c83] at H
                exact absurd H (by simp)
          ·rw [if_neg c62] at H
           exact absurd H (by simp)
     ·replace c38 := Bool.eq_false_iff.mpr c38
      subst c38
      have H1 : (some false) = some true := by rw [if_neg (show ¬ (false = true) by decide)] at H; exact H
      exact absurd H1 (by simp)
/-- THE PURE STATEMENT of laws_FnExactConeOf. -/
def laws_FnExactConeOf.Pure : Prop := ∀ (a0_0 : Int) (l0_1 : List (S82)) (l0_2 : List Int) (a1 : Int), (Lit.int .i64 a0_0).wf = true → ((l0_1).length ≤ maxLen ∧ ∀ y ∈ l0_1, wf82 y) → ((l0_2).length ≤ maxLen ∧ ∀ y ∈ l0_2, (Lit.int .i64 y).wf = true) → (Lit.int .i64 a1).wf = true → ∃ k, laws_FnExactConeOf.f k a0_0 l0_1 l0_2 a1 = some true
theorem laws_FnExactConeOf.walk (P : laws_FnExactConeOf.Pure) (a0_0 : Int) (A0_1 : Option Addr) (c0_1 : Nat) (l0_1 : List (S82)) (A0_2 : Option Addr) (c0_2 : Nat) (l0_2 : List Int) (a1 : Int) (w : World) (hr0_1 : Kd.C k82 w A0_1 l0_1.length l0_1) (hc0_1 : l0_1.length ≤ c0_1) (hr0_2 : Kd.C (Kd.int .i64) w A0_2 l0_2.length l0_2) (hc0_2 : l0_2.length ≤ c0_2) (w0_0 : (Lit.int .i64 a0_0).wf = true) (w0_1 : ((l0_1).length ≤ maxLen ∧ ∀ y ∈ l0_1, wf82 y)) (w0_2 : ((l0_2).length ≤ maxLen ∧ ∀ y ∈ l0_2, (Lit.int .i64 y).wf = true)) (w1 : (Lit.int .i64 a1).wf = true) :
  Calls Try.prog 6 #[.agg #[.int .i64 a0_0, .slice A0_1 l0_1.length c0_1, .slice A0_2 l0_2.length c0_2], .int .i64 a1] w fun e w' => e = .returned (.bool true) ∧ Below w.heap.size w w' := by
 obtain ⟨k, h⟩ := P a0_0 l0_1 l0_2 a1 w0_0 w0_1 w0_2 w1
 refine (laws_FnExactConeOf.calls k a0_0 A0_1 c0_1 l0_1 A0_2 c0_2 l0_2 a1 true w hr0_1 hc0_1 hr0_2 hc0_2 h).mono ?_
 rintro e w' ⟨rfl, hd⟩
 exact ⟨rfl, hd⟩

end Go.Proofs.Ytimkjhdopncimaa.X
