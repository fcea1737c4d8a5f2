/- Each Go function as a Lean function, with the proof that the call comes to just its answer; or a law's row out of its pure statement. Conditions: the arguments are of their kinds. Written by this session's program wip/xp/xp.sh. -/
import Derived.Test.YtimkjhdopncimaaX0
import Derived.Test.YtimkjhdopncimaaX1
import Derived.Test.YtimkjhdopncimaaX5
import Derived.Test.YtimkjhdopncimaaX13
import Derived.Test.YtimkjhdopncimaaX16
import Derived.Test.YtimkjhdopncimaaX18
import Derived.Test.YtimkjhdopncimaaX19
import Derived.Test.YtimkjhdopncimaaX21
import Derived.Test.YtimkjhdopncimaaXO
namespace Go.Proofs.Ytimkjhdopncimaa.X
open Go.RowKit Go.Proofs.YtimkjhdopncimaaW.PrintWords Go.Proofs.YtimkjhdopncimaaW.PrintLast Go.Proofs.YtimkjhdopncimaaW.PrintMore
attribute [local go_sem] max2_int min2_int max_two min_two max_three min_three max_four min_four   -- for this text's walks alone
set_option linter.unusedVariables false
set_option linter.unusedSimpArgs false

/-! ### laws_FnExactRunCircuit: function 5 -/
mutual
def laws_FnExactRunCircuit.j0 : Nat → List Bool → List Bool → Bool → List Bool → List Bool → Bool → Bool → Int → List (S82) → List Int → Int → List (S59) → List Int → Option (Bool)
  | 0, _, _, _, _, _, _, _, _, _, _, _, _, _ => none
  | k + 1, x1, x6, x7, x9, x10, x11, x51, x404000, x404001, x404002, x427000, x427001, x427002 => if x51 = true then (some false) else ((laws_toCircuit.f k x404000 x404001 x404002).bind fun bt435 => ((laws_eqCircuit.f k x427000 x427001 x427002 bt435.1 bt435.2.1 bt435.2.2).bind fun t442 => (if t442 = true then ((laws_toBoolS.f k x1).bind fun t443 => ((laws_eqBoolS.f k x9 t443).bind fun t446 => (if t446 = true then ((laws_markCircuit.f k x427000 x427001 x427002 1).bind fun bt447 => ((laws_markBoolS.f k x9 bt447.1).bind fun bt450 => (if bt450.1 < 0 then (laws_FnExactRunCircuit.j1 k x1 x6 x7 x10 true x404000 x404001 x404002) else ((laws_eqBoolS.f k x10 x6).bind fun t452 => (if t452 = true then (laws_FnExactRunCircuit.j1 k x1 x6 x7 x10 (x11 != x7) x404000 x404001 x404002) else (laws_FnExactRunCircuit.j1 k x1 x6 x7 x10 true x404000 x404001 x404002)))))) else (some false)))) else (some false))))
def laws_FnExactRunCircuit.j1 : Nat → List Bool → List Bool → Bool → List Bool → Bool → Int → List (S82) → List Int → Option (Bool)
  | 0, _, _, _, _, _, _, _, _ => none
  | k + 1, x1, x6, x7, x10, x80, x404000, x404001, x404002 => if x80 = true then (some false) else ((laws_markBoolS.f k x10 1).bind fun bt453 => ((laws_heldBoolS.f k bt453.2 1).bind fun t455 => (if t455 < 0 then (some false) else (if t455 = bt453.1 then ((laws_toCircuit.f k x404000 x404001 x404002).bind fun bt456 => ((laws_toBoolS.f k x1).bind fun t463 => ((impl_RunCircuit.f k bt456.1 bt456.2.1 bt456.2.2 t463).bind fun bt466 => ((laws_eqBoolS.f k bt466.1 x6).bind fun t470 => (if t470 = true then (laws_FnExactRunCircuit.j2 k bt453.2 bt453.1 (bt466.2 != x7)) else (laws_FnExactRunCircuit.j2 k bt453.2 bt453.1 true)))))) else (some false)))))
def laws_FnExactRunCircuit.j2 : Nat → List Bool → Int → Bool → Option (Bool)
  | 0, _, _, _ => none
  | k + 1, x10, x13, x108 => if x108 = true then (some false) else ((laws_heldBoolS.f k x10 1).bind fun t471 => (if t471 < 0 then (some false) else (if t471 = x13 then (some true) else (some false))))
end
def laws_FnExactRunCircuit.f (k : Nat) (a0_0 : Int) (l0_1 : List (S82)) (l0_2 : List Int) (l1 : List Bool) : Option (Bool) := if (l1.length : Int) > 1048576 then (some true) else ((laws_szCircuit.f a0_0 l0_1 l0_2 1048576).bind fun t404 => (if t404 < 0 then (some true) else ((laws_toCircuit.f k a0_0 l0_1 l0_2).bind fun bt405 => ((laws_toBoolS.f k l1).bind fun t412 => ((spec_RunCircuit.f k bt405.1 bt405.2.1 bt405.2.2 t412).bind fun bt415 => ((laws_toCircuit.f k a0_0 l0_1 l0_2).bind fun bt419 => ((laws_toBoolS.f k l1).bind fun t427 => ((impl_RunCircuit.f k bt419.1 bt419.2.1 bt419.2.2 t427).bind fun bt430 => ((laws_eqBoolS.f k bt430.1 bt415.1).bind fun t434 => (if t434 = true then (laws_FnExactRunCircuit.j0 k l1 bt415.1 bt415.2 t427 bt430.1 bt430.2 (bt430.2 != bt415.2) a0_0 l0_1 l0_2 bt419.1 bt419.2.1 bt419.2.2) else (laws_FnExactRunCircuit.j0 k l1 bt415.1 bt415.2 t427 bt430.1 bt430.2 true a0_0 l0_1 l0_2 bt419.1 bt419.2.1 bt419.2.2)))))))))))
theorem laws_FnExactRunCircuit.mono_l : ∀ k, (∀ y0 y1 y2 y3 y4 y5 y6 y7 y8 y9 y10 y11 y12, LeO (laws_FnExactRunCircuit.j0 k y0 y1 y2 y3 y4 y5 y6 y7 y8 y9 y10 y11 y12) (laws_FnExactRunCircuit.j0 (k + 1) y0 y1 y2 y3 y4 y5 y6 y7 y8 y9 y10 y11 y12)) ∧ (∀ y0 y1 y2 y3 y4 y5 y6 y7, LeO (laws_FnExactRunCircuit.j1 k y0 y1 y2 y3 y4 y5 y6 y7) (laws_FnExactRunCircuit.j1 (k + 1) y0 y1 y2 y3 y4 y5 y6 y7)) ∧ (∀ y0 y1 y2, LeO (laws_FnExactRunCircuit.j2 k y0 y1 y2) (laws_FnExactRunCircuit.j2 (k + 1) y0 y1 y2))
  | 0 => ⟨fun _ _ _ _ _ _ _ _ _ _ _ _ _ r h => by simp [laws_FnExactRunCircuit.j0] at h, fun _ _ _ _ _ _ _ _ r h => by simp [laws_FnExactRunCircuit.j1] at h, fun _ _ _ r h => by simp [laws_FnExactRunCircuit.j2] at h⟩
  | k + 1 => by
    obtain ⟨ih0, ih1, ih2⟩ := laws_FnExactRunCircuit.mono_l k
    refine ⟨?_, ?_, ?_⟩
    · intro y0 y1 y2 y3 y4 y5 y6 y7 y8 y9 y10 y11 y12
      unfold laws_FnExactRunCircuit.j0
      repeat' first
      | (with_reducible exact ih0 _ _ _ _ _ _ _ _ _ _ _ _ _)
      | (with_reducible exact ih1 _ _ _ _ _ _ _ _)
      | (with_reducible exact ih2 _ _ _)
      | (with_reducible exact impl_RunCircuit.mono _ _ _ _ _)
      | (with_reducible exact laws_eqBoolS.mono _ _ _)
      | (with_reducible exact laws_eqCircuit.mono _ _ _ _ _ _ _)
      | (with_reducible exact laws_heldBoolS.mono _ _ _)
      | (with_reducible exact laws_markBoolS.mono _ _ _)
      | (with_reducible exact laws_markCircuit.mono _ _ _ _ _)
      | (with_reducible exact laws_toBoolS.mono _ _)
      | (with_reducible exact laws_toCircuit.mono _ _ _ _)
      | (with_reducible exact spec_RunCircuit.mono _ _ _ _ _)
      | (with_reducible exact LeO.refl _)
      | (with_reducible exact LeO.none _)
      | (with_reducible refine LeO.ite ?_ ?_)
      | (with_reducible refine LeO.bind ?_ (fun _ => ?_))
      | exact ih0 _ _ _ _ _ _ _ _ _ _ _ _ _
      | exact ih1 _ _ _ _ _ _ _ _
      | exact ih2 _ _ _
      | exact impl_RunCircuit.mono _ _ _ _ _
      | exact laws_eqBoolS.mono _ _ _
      | exact laws_eqCircuit.mono _ _ _ _ _ _ _
      | exact laws_heldBoolS.mono _ _ _
      | exact laws_markBoolS.mono _ _ _
      | exact laws_markCircuit.mono _ _ _ _ _
      | exact laws_toBoolS.mono _ _
      | exact laws_toCircuit.mono _ _ _ _
      | exact spec_RunCircuit.mono _ _ _ _ _
      | exact LeO.none _
      | refine LeO.ite ?_ ?_
      | refine LeO.bind ?_ (fun _ => ?_)
    · intro y0 y1 y2 y3 y4 y5 y6 y7
      unfold laws_FnExactRunCircuit.j1
      repeat' first
      | (with_reducible exact ih0 _ _ _ _ _ _ _ _ _ _ _ _ _)
      | (with_reducible exact ih1 _ _ _ _ _ _ _ _)
      | (with_reducible exact ih2 _ _ _)
      | (with_reducible exact impl_RunCircuit.mono _ _ _ _ _)
      | (with_reducible exact laws_eqBoolS.mono _ _ _)
      | (with_reducible exact laws_eqCircuit.mono _ _ _ _ _ _ _)
      | (with_reducible exact laws_heldBoolS.mono _ _ _)
      | (with_reducible exact laws_markBoolS.mono _ _ _)
      | (with_reducible exact laws_markCircuit.mono _ _ _ _ _)
      | (with_reducible exact laws_toBoolS.mono _ _)
      | (with_reducible exact laws_toCircuit.mono _ _ _ _)
      | (with_reducible exact spec_RunCircuit.mono _ _ _ _ _)
      | (with_reducible exact LeO.refl _)
      | (with_reducible exact LeO.none _)
      | (with_reducible refine LeO.ite ?_ ?_)
      | (with_reducible refine LeO.bind ?_ (fun _ => ?_))
      | exact ih0 _ _ _ _ _ _ _ _ _ _ _ _ _
      | exact ih1 _ _ _ _ _ _ _ _
      | exact ih2 _ _ _
      | exact impl_RunCircuit.mono _ _ _ _ _
      | exact laws_eqBoolS.mono _ _ _
      | exact laws_eqCircuit.mono _ _ _ _ _ _ _
      | exact laws_heldBoolS.mono _ _ _
      | exact laws_markBoolS.mono _ _ _
      | exact laws_markCircuit.mono _ _ _ _ _
      | exact laws_toBoolS.mono _ _
      | exact laws_toCircuit.mono _ _ _ _
      | exact spec_RunCircuit.mono _ _ _ _ _
      | exact LeO.none _
      | refine LeO.ite ?_ ?_
      | refine LeO.bind ?_ (fun _ => ?_)
    · intro y0 y1 y2
      unfold laws_FnExactRunCircuit.j2
      repeat' first
      | (with_reducible exact ih0 _ _ _ _ _ _ _ _ _ _ _ _ _)
      | (with_reducible exact ih1 _ _ _ _ _ _ _ _)
      | (with_reducible exact ih2 _ _ _)
      | (with_reducible exact impl_RunCircuit.mono _ _ _ _ _)
      | (with_reducible exact laws_eqBoolS.mono _ _ _)
      | (with_reducible exact laws_eqCircuit.mono _ _ _ _ _ _ _)
      | (with_reducible exact laws_heldBoolS.mono _ _ _)
      | (with_reducible exact laws_markBoolS.mono _ _ _)
      | (with_reducible exact laws_markCircuit.mono _ _ _ _ _)
      | (with_reducible exact laws_toBoolS.mono _ _)
      | (with_reducible exact laws_toCircuit.mono _ _ _ _)
      | (with_reducible exact spec_RunCircuit.mono _ _ _ _ _)
      | (with_reducible exact LeO.refl _)
      | (with_reducible exact LeO.none _)
      | (with_reducible refine LeO.ite ?_ ?_)
      | (with_reducible refine LeO.bind ?_ (fun _ => ?_))
      | exact ih0 _ _ _ _ _ _ _ _ _ _ _ _ _
      | exact ih1 _ _ _ _ _ _ _ _
      | exact ih2 _ _ _
      | exact impl_RunCircuit.mono _ _ _ _ _
      | exact laws_eqBoolS.mono _ _ _
      | exact laws_eqCircuit.mono _ _ _ _ _ _ _
      | exact laws_heldBoolS.mono _ _ _
      | exact laws_markBoolS.mono _ _ _
      | exact laws_markCircuit.mono _ _ _ _ _
      | exact laws_toBoolS.mono _ _
      | exact laws_toCircuit.mono _ _ _ _
      | exact spec_RunCircuit.mono _ _ _ _ _
      | exact LeO.none _
      | refine LeO.ite ?_ ?_
      | refine LeO.bind ?_ (fun _ => ?_)
theorem laws_FnExactRunCircuit.mono : ∀ a0 a1 a2 a3 k, LeO (laws_FnExactRunCircuit.f k a0 a1 a2 a3) (laws_FnExactRunCircuit.f (k + 1) a0 a1 a2 a3) := by
  intro a0 a1 a2 a3 k
  obtain ⟨ih0, ih1, ih2⟩ := laws_FnExactRunCircuit.mono_l k
  unfold laws_FnExactRunCircuit.f
  repeat' first
      | (with_reducible exact ih0 _ _ _ _ _ _ _ _ _ _ _ _ _)
      | (with_reducible exact ih1 _ _ _ _ _ _ _ _)
      | (with_reducible exact ih2 _ _ _)
      | (with_reducible exact impl_RunCircuit.mono _ _ _ _ _)
      | (with_reducible exact laws_eqBoolS.mono _ _ _)
      | (with_reducible exact laws_eqCircuit.mono _ _ _ _ _ _ _)
      | (with_reducible exact laws_heldBoolS.mono _ _ _)
      | (with_reducible exact laws_markBoolS.mono _ _ _)
      | (with_reducible exact laws_markCircuit.mono _ _ _ _ _)
      | (with_reducible exact laws_toBoolS.mono _ _)
      | (with_reducible exact laws_toCircuit.mono _ _ _ _)
      | (with_reducible exact spec_RunCircuit.mono _ _ _ _ _)
      | (with_reducible exact LeO.refl _)
      | (with_reducible exact LeO.none _)
      | (with_reducible refine LeO.ite ?_ ?_)
      | (with_reducible refine LeO.bind ?_ (fun _ => ?_))
      | exact ih0 _ _ _ _ _ _ _ _ _ _ _ _ _
      | exact ih1 _ _ _ _ _ _ _ _
      | exact ih2 _ _ _
      | exact impl_RunCircuit.mono _ _ _ _ _
      | exact laws_eqBoolS.mono _ _ _
      | exact laws_eqCircuit.mono _ _ _ _ _ _ _
      | exact laws_heldBoolS.mono _ _ _
      | exact laws_markBoolS.mono _ _ _
      | exact laws_markCircuit.mono _ _ _ _ _
      | exact laws_toBoolS.mono _ _
      | exact laws_toCircuit.mono _ _ _ _
      | exact spec_RunCircuit.mono _ _ _ _ _
      | exact LeO.none _
      | refine LeO.ite ?_ ?_
      | refine LeO.bind ?_ (fun _ => ?_)
set_option maxHeartbeats 8000000 in
set_option maxRecDepth 100000 in
theorem laws_FnExactRunCircuit.calls (k : Nat) (a0_0 : Int) (A0_1 : Option Addr) (c0_1 : Nat) (l0_1 : List (S82)) (A0_2 : Option Addr) (c0_2 : Nat) (l0_2 : List Int) (A1 : Option Addr) (c1 : Nat) (l1 : List Bool) (r : Bool) (w : World) (hr0_1 : Kd.C k82 w A0_1 l0_1.length l0_1) (hc0_1 : l0_1.length ≤ c0_1) (hr0_2 : Kd.C (Kd.int .i64) w A0_2 l0_2.length l0_2) (hc0_2 : l0_2.length ≤ c0_2) (hr1 : Kd.C Kd.bool w A1 l1.length l1) (hc1 : l1.length ≤ c1) (h : laws_FnExactRunCircuit.f k a0_0 l0_1 l0_2 l1 = some r) :
    Calls Try.prog 5 #[.agg #[.int .i64 a0_0, .slice A0_1 l0_1.length c0_1, .slice A0_2 l0_2.length c0_2], .slice A1 l1.length c1] w fun e w' => e = .returned (.bool r) ∧ Below w.heap.size w w' := by
  have hu25 := Try.underlying25
  have hu30 := Try.underlying30
  have HR0_1 := Aside0.mk hr0_1
  have HC0_1 := Aside0.mk hc0_1
  clear hr0_1 hc0_1
  have HR0_2 := Aside0.mk hr0_2
  have HC0_2 := Aside0.mk hc0_2
  clear hr0_2 hc0_2
  have HR1 := Aside0.mk hr1
  have HC1 := Aside0.mk hc1
  clear hr1 hc1
  have HB := Aside0.mk (Below.refl w.heap.size w)
  have H : (if (l1.length : Int) > 1048576 then (some true) else ((laws_szCircuit.f a0_0 l0_1 l0_2 1048576).bind fun t404 => (if t404 < 0 then (some true) else ((laws_toCircuit.f k a0_0 l0_1 l0_2).bind fun bt405 => ((laws_toBoolS.f k l1).bind fun t412 => ((spec_RunCircuit.f k bt405.1 bt405.2.1 bt405.2.2 t412).bind fun bt415 => ((laws_toCircuit.f k a0_0 l0_1 l0_2).bind fun bt419 => ((laws_toBoolS.f k l1).bind fun t427 => ((impl_RunCircuit.f k bt419.1 bt419.2.1 bt419.2.2 t427).bind fun bt430 => ((laws_eqBoolS.f k bt430.1 bt415.1).bind fun t434 => (if t434 = true then (laws_FnExactRunCircuit.j0 k l1 bt415.1 bt415.2 t427 bt430.1 bt430.2 (bt430.2 != bt415.2) a0_0 l0_1 l0_2 bt419.1 bt419.2.1 bt419.2.2) else (laws_FnExactRunCircuit.j0 k l1 bt415.1 bt415.2 t427 bt430.1 bt430.2 true a0_0 l0_1 l0_2 bt419.1 bt419.2.1 bt419.2.2)))))))))))) = some r := h
  clear h
  by_cases c3 : (l1.length : Int) > 1048576
  · rw [if_pos c3] at H
    have c3b0 : decide (1048576 < (l1.length : Int)) = true := decide_eq_true c3
    have c3b1 : decide (1048576 < l1.length) = true := decide_eq_true (by omega)
    clear c3
    obtain rfl := Option.some.inj H
    go_enter Try.func5, Try.ntmps5
    go_wp2_with (first | ((with_reducible refine gate_dst (N := 2) rfl ?_); refine box_event ?hg (N := 2) ?hd (cs := #[.int .i64 a0_0, .slice A0_1 l0_1.length c0_1, .slice A0_2 l0_2.length c0_2]) (t := 25) ?hr ?_; (case hd => rfl); (case hg => rfl); (case hr => first | (go_simp; done) | (go_simp; rfl)); intro gb403 hg w4 hbox hb; have n0_ := Aside0.mk (below_step (qB) hb); have n1_ := Aside0.mk (hbox); have n2_ := Aside0.mk ((by rw [hg]; exact (below_size (qB)) : w.heap.size ≤ gb403)); have n3_ := Aside0.mk ((by rw [hg]; exact (below_size (qB)) : w.heap.size ≤ gb403)); clear HB; have HB := n0_; have BK403 := n1_; have GW403 := n2_; have GE403 := n3_; clear n0_ n1_ n2_ n3_; clear hb hbox hg))
    go_ret
    exact ⟨qE, qB⟩
  · rw [if_neg c3] at H
    have c3b0 : decide (1048576 < (l1.length : Int)) = false := decide_eq_false c3
    have c3b1 : decide (1048576 < l1.length) = false := decide_eq_false (by omega)
    clear c3
    replace H := Option.bind_eq_some_iff.mp H
    obtain ⟨t404, A50, H⟩ := H
    replace H : (if t404 < 0 then (some true) else ((laws_toCircuit.f k a0_0 l0_1 l0_2).bind fun bt405 => ((laws_toBoolS.f k l1).bind fun t412 => ((spec_RunCircuit.f k bt405.1 bt405.2.1 bt405.2.2 t412).bind fun bt415 => ((laws_toCircuit.f k a0_0 l0_1 l0_2).bind fun bt419 => ((laws_toBoolS.f k l1).bind fun t427 => ((impl_RunCircuit.f k bt419.1 bt419.2.1 bt419.2.2 t427).bind fun bt430 => ((laws_eqBoolS.f k bt430.1 bt415.1).bind fun t434 => (if t434 = true then (laws_FnExactRunCircuit.j0 k l1 bt415.1 bt415.2 t427 bt430.1 bt430.2 (bt430.2 != bt415.2) a0_0 l0_1 l0_2 bt419.1 bt419.2.1 bt419.2.2) else (laws_FnExactRunCircuit.j0 k l1 bt415.1 bt415.2 t427 bt430.1 bt430.2 true a0_0 l0_1 l0_2 bt419.1 bt419.2.1 bt419.2.2)))))))))) = some r := H
    have A5 := Aside0.mk A50
    clear A50
    by_cases c6 : t404 < 0
    · rw [if_pos c6] at H
      have c6b0 : decide (t404 < 0) = true := decide_eq_true c6
      clear c6
      obtain rfl := Option.some.inj H
      go_enter Try.func5, Try.ntmps5
      go_wp2_with (first | ((with_reducible refine gate_dst (N := 2) rfl ?_); refine box_event ?hg (N := 2) ?hd (cs := #[.int .i64 a0_0, .slice A0_1 l0_1.length c0_1, .slice A0_2 l0_2.length c0_2]) (t := 25) ?hr ?_; (case hd => rfl); (case hg => rfl); (case hr => first | (go_simp; done) | (go_simp; rfl)); intro gb403 hg w7 hbox hb; have n0_ := Aside0.mk (below_step (qB) hb); have n1_ := Aside0.mk (hbox); have n2_ := Aside0.mk ((by rw [hg]; exact (below_size (qB)) : w.heap.size ≤ gb403)); have n3_ := Aside0.mk ((by rw [hg]; exact (below_size (qB)) : w.heap.size ≤ gb403)); clear HB; have HB := n0_; have BK403 := n1_; have GW403 := n2_; have GE403 := n3_; clear n0_ n1_ n2_ n3_; clear hb hbox hg; have hcz8_0 : w7.cell? ⟨gb403, 0, none⟩ = some (.int .i64 a0_0) := (blk_cell BK403.out 0).trans rfl; have hcz8_1 : w7.cell? ⟨gb403, 1, none⟩ = some (.slice A0_1 l0_1.length c0_1) := (blk_cell BK403.out 1).trans rfl; have hcz8_2 : w7.cell? ⟨gb403, 2, none⟩ = some (.slice A0_2 l0_2.length c0_2) := (blk_cell BK403.out 2).trans rfl; have hfz8_0 := blk_frozen BK403.out 0; have hfz8_1 := blk_frozen BK403.out 1; have hfz8_2 := blk_frozen BK403.out 2) | ((with_reducible refine gate_callee (f := 11) rfl ?_); refine goesL_ (some 22) rfl rfl Try.func11 (by kernel_rfl) rfl #[.agg #[.int .i64 a0_0, .slice A0_1 l0_1.length c0_1, .slice A0_2 l0_2.length c0_2], .int .i64 1048576] rfl qG ?_; (with_reducible refine (laws_szCircuit.calls a0_0 _ _ l0_1 _ _ l0_2 1048576 t404 _ ?side1 ?side2 ?side3 ?side4 A5.out).mono ?_); (case side1 => exact qC (Kd.C_below HR0_1.out HB.out)); (case side2 => exact HC0_1.out); (case side3 => exact qC (Kd.C_below HR0_2.out HB.out)); (case side4 => exact HC0_2.out); rintro e w9 ⟨rfl, hb⟩; refine ⟨_, rfl, ?_⟩; have n0_ := Aside0.mk (blk_below (g := gb403) (o := .cells #[.int .i64 a0_0, .slice A0_1 l0_1.length c0_1, .slice A0_2 l0_2.length c0_2] 25 (0, 0)) (qK BK403.out) hb); have n1_ := Aside0.mk (below_step (qB) hb); clear BK403; clear HB; have BK403 := n0_; have HB := n1_; clear n0_ n1_; (try clear hb); (try clear hb2); (try clear hk); (try clear hi)))
      go_ret
      exact ⟨qE, qB⟩
    · rw [if_neg c6] at H
      have c6b0 : decide (t404 < 0) = false := decide_eq_false c6
      clear c6
      replace H := Option.bind_eq_some_iff.mp H
      obtain ⟨⟨t405, t406, t409⟩, A100, H⟩ := H
      replace H : ((laws_toBoolS.f k l1).bind fun t412 => ((spec_RunCircuit.f k t405 t406 t409 t412).bind fun bt415 => ((laws_toCircuit.f k a0_0 l0_1 l0_2).bind fun bt419 => ((laws_toBoolS.f k l1).bind fun t427 => ((impl_RunCircuit.f k bt419.1 bt419.2.1 bt419.2.2 t427).bind fun bt430 => ((laws_eqBoolS.f k bt430.1 bt415.1).bind fun t434 => (if t434 = true then (laws_FnExactRunCircuit.j0 k l1 bt415.1 bt415.2 t427 bt430.1 bt430.2 (bt430.2 != bt415.2) a0_0 l0_1 l0_2 bt419.1 bt419.2.1 bt419.2.2) else (laws_FnExactRunCircuit.j0 k l1 bt415.1 bt415.2 t427 bt430.1 bt430.2 true a0_0 l0_1 l0_2 bt419.1 bt419.2.1 bt419.2.2)))))))) = some r := H
      have A10 := Aside0.mk A100
      clear A100
      replace H := Option.bind_eq_some_iff.mp H
      obtain ⟨t412, A110, H⟩ := H
      replace H : ((spec_RunCircuit.f k t405 t406 t409 t412).bind fun bt415 => ((laws_toCircuit.f k a0_0 l0_1 l0_2).bind fun bt419 => ((laws_toBoolS.f k l1).bind fun t427 => ((impl_RunCircuit.f k bt419.1 bt419.2.1 bt419.2.2 t427).bind fun bt430 => ((laws_eqBoolS.f k bt430.1 bt415.1).bind fun t434 => (if t434 = true then (laws_FnExactRunCircuit.j0 k l1 bt415.1 bt415.2 t427 bt430.1 bt430.2 (bt430.2 != bt415.2) a0_0 l0_1 l0_2 bt419.1 bt419.2.1 bt419.2.2) else (laws_FnExactRunCircuit.j0 k l1 bt415.1 bt415.2 t427 bt430.1 bt430.2 true a0_0 l0_1 l0_2 bt419.1 bt419.2.1 bt419.2.2))))))) = some r := H
      have A11 := Aside0.mk A110
      clear A110
      replace H := Option.bind_eq_some_iff.mp H
      obtain ⟨⟨t415, t418⟩, A120, H⟩ := H
      replace H : ((laws_toCircuit.f k a0_0 l0_1 l0_2).bind fun bt419 => ((laws_toBoolS.f k l1).bind fun t427 => ((impl_RunCircuit.f k bt419.1 bt419.2.1 bt419.2.2 t427).bind fun bt430 => ((laws_eqBoolS.f k bt430.1 t415).bind fun t434 => (if t434 = true then (laws_FnExactRunCircuit.j0 k l1 t415 t418 t427 bt430.1 bt430.2 (bt430.2 != t418) a0_0 l0_1 l0_2 bt419.1 bt419.2.1 bt419.2.2) else (laws_FnExactRunCircuit.j0 k l1 t415 t418 t427 bt430.1 bt430.2 true a0_0 l0_1 l0_2 bt419.1 bt419.2.1 bt419.2.2)))))) = some r := H
      have A12 := Aside0.mk A120
      clear A120
      replace H := Option.bind_eq_some_iff.mp H
      obtain ⟨⟨t419, t420, t423⟩, A130, H⟩ := H
      replace H : ((laws_toBoolS.f k l1).bind fun t427 => ((impl_RunCircuit.f k t419 t420 t423 t427).bind fun bt430 => ((laws_eqBoolS.f k bt430.1 t415).bind fun t434 => (if t434 = true then (laws_FnExactRunCircuit.j0 k l1 t415 t418 t427 bt430.1 bt430.2 (bt430.2 != t418) a0_0 l0_1 l0_2 t419 t420 t423) else (laws_FnExactRunCircuit.j0 k l1 t415 t418 t427 bt430.1 bt430.2 true a0_0 l0_1 l0_2 t419 t420 t423))))) = some r := H
      have A13 := Aside0.mk A130
      clear A130
      replace H := Option.bind_eq_some_iff.mp H
      obtain ⟨t427, A140, H⟩ := H
      replace H : ((impl_RunCircuit.f k t419 t420 t423 t427).bind fun bt430 => ((laws_eqBoolS.f k bt430.1 t415).bind fun t434 => (if t434 = true then (laws_FnExactRunCircuit.j0 k l1 t415 t418 t427 bt430.1 bt430.2 (bt430.2 != t418) a0_0 l0_1 l0_2 t419 t420 t423) else (laws_FnExactRunCircuit.j0 k l1 t415 t418 t427 bt430.1 bt430.2 true a0_0 l0_1 l0_2 t419 t420 t423)))) = some r := H
      have A14 := Aside0.mk A140
      clear A140
      obtain rfl : t412 = t427 := Option.some.inj (A11.out.symm.trans A14.out)
      replace H := Option.bind_eq_some_iff.mp H
      obtain ⟨⟨t430, t433⟩, A150, H⟩ := H
      replace H : ((laws_eqBoolS.f k t430 t415).bind fun t434 => (if t434 = true then (laws_FnExactRunCircuit.j0 k l1 t415 t418 t412 t430 t433 (t433 != t418) a0_0 l0_1 l0_2 t419 t420 t423) else (laws_FnExactRunCircuit.j0 k l1 t415 t418 t412 t430 t433 true a0_0 l0_1 l0_2 t419 t420 t423))) = some r := H
      have A15 := Aside0.mk A150
      clear A150
      have HC16 := Aside0.mk H
      clear H
      go_enter Try.func5, Try.ntmps5
      go_upto_region 11 with (first | ((with_reducible refine gate_dst (N := 2) rfl ?_); refine box_event ?hg (N := 2) ?hd (cs := #[.int .i64 a0_0, .slice A0_1 l0_1.length c0_1, .slice A0_2 l0_2.length c0_2]) (t := 25) ?hr ?_; (case hd => rfl); (case hg => rfl); (case hr => first | (go_simp; done) | (go_simp; rfl)); intro gb403 hg w17 hbox hb; have n0_ := Aside0.mk (below_step (qB) hb); have n1_ := Aside0.mk (hbox); have n2_ := Aside0.mk ((by rw [hg]; exact (below_size (qB)) : w.heap.size ≤ gb403)); have n3_ := Aside0.mk ((by rw [hg]; exact (below_size (qB)) : w.heap.size ≤ gb403)); clear HB; have HB := n0_; have BK403 := n1_; have GW403 := n2_; have GE403 := n3_; clear n0_ n1_ n2_ n3_; clear hb hbox hg; have hcz18_0 : w17.cell? ⟨gb403, 0, none⟩ = some (.int .i64 a0_0) := (blk_cell BK403.out 0).trans rfl; have hcz18_1 : w17.cell? ⟨gb403, 1, none⟩ = some (.slice A0_1 l0_1.length c0_1) := (blk_cell BK403.out 1).trans rfl; have hcz18_2 : w17.cell? ⟨gb403, 2, none⟩ = some (.slice A0_2 l0_2.length c0_2) := (blk_cell BK403.out 2).trans rfl; have hfz18_0 := blk_frozen BK403.out 0; have hfz18_1 := blk_frozen BK403.out 1; have hfz18_2 := blk_frozen BK403.out 2) | ((with_reducible refine gate_callee (f := 11) rfl ?_); refine goesL_ (some 22) rfl rfl Try.func11 (by kernel_rfl) rfl #[.agg #[.int .i64 a0_0, .slice A0_1 l0_1.length c0_1, .slice A0_2 l0_2.length c0_2], .int .i64 1048576] rfl qG ?_; (with_reducible refine (laws_szCircuit.calls a0_0 _ _ l0_1 _ _ l0_2 1048576 t404 _ ?side1 ?side2 ?side3 ?side4 A5.out).mono ?_); (case side1 => exact qC (Kd.C_below HR0_1.out HB.out)); (case side2 => exact HC0_1.out); (case side3 => exact qC (Kd.C_below HR0_2.out HB.out)); (case side4 => exact HC0_2.out); rintro e w19 ⟨rfl, hb⟩; refine ⟨_, rfl, ?_⟩; have n0_ := Aside0.mk (blk_below (g := gb403) (o := .cells #[.int .i64 a0_0, .slice A0_1 l0_1.length c0_1, .slice A0_2 l0_2.length c0_2] 25 (0, 0)) (qK BK403.out) hb); have n1_ := Aside0.mk (below_step (qB) hb); clear BK403; clear HB; have BK403 := n0_; have HB := n1_; clear n0_ n1_; (try clear hb); (try clear hb2); (try clear hk); (try clear hi); have hcz20_0 : w19.cell? ⟨gb403, 0, none⟩ = some (.int .i64 a0_0) := (blk_cell BK403.out 0).trans rfl; have hcz20_1 : w19.cell? ⟨gb403, 1, none⟩ = some (.slice A0_1 l0_1.length c0_1) := (blk_cell BK403.out 1).trans rfl; have hcz20_2 : w19.cell? ⟨gb403, 2, none⟩ = some (.slice A0_2 l0_2.length c0_2) := (blk_cell BK403.out 2).trans rfl; have hfz20_0 := blk_frozen BK403.out 0; have hfz20_1 := blk_frozen BK403.out 1; have hfz20_2 := blk_frozen BK403.out 2) | ((with_reducible refine gate_callee (f := 13) rfl ?_); refine goesL_ (some 27) rfl rfl Try.func13 (by kernel_rfl) rfl #[.agg #[.int .i64 a0_0, .slice A0_1 l0_1.length c0_1, .slice A0_2 l0_2.length c0_2]] rfl qG ?_; (with_reducible refine (laws_toCircuit.calls k a0_0 _ _ l0_1 _ _ l0_2 t405 t406 t409 _ ?side1 ?side2 ?side3 ?side4 A10.out).mono ?_); (case side1 => exact qC (Kd.C_below HR0_1.out HB.out)); (case side2 => exact HC0_1.out); (case side3 => exact qC (Kd.C_below HR0_2.out HB.out)); (case side4 => exact HC0_2.out); rintro e w21 ⟨v407, v410, rfl, ho0, ho1, hb⟩; refine ⟨_, rfl, ?_⟩; have n0_ := Aside0.mk (Kd.R_lower ho0 (below_size (qB))); have n1_ := Aside0.mk (Kd.R_lower ho1 (below_size (qB))); have n2_ := Aside0.mk (blk_below (g := gb403) (o := .cells #[.int .i64 a0_0, .slice A0_1 l0_1.length c0_1, .slice A0_2 l0_2.length c0_2] 25 (0, 0)) (qK BK403.out) hb); have n3_ := Aside0.mk (below_step (qB) hb); clear BK403; clear HB; have HO408 := n0_; have HO411 := n1_; have BK403 := n2_; have HB := n3_; clear n0_ n1_ n2_ n3_; (try clear hb); (try clear hb2); (try clear hk); (try clear hi); (try clear ho0); (try clear ho1)) | ((with_reducible refine gate_callee (f := 17) rfl ?_); refine goesL_ (some 29) rfl rfl Try.func17 (by kernel_rfl) rfl #[.slice A1 l1.length c1] rfl qG ?_; (with_reducible refine (laws_toBoolS.calls k _ _ l1 t412 _ ?side1 ?side2 A11.out).mono ?_); (case side1 => exact qC (Kd.C_below HR1.out HB.out)); (case side2 => exact HC1.out); rintro e w22 ⟨v413, rfl, ho0, hb⟩; refine ⟨_, rfl, ?_⟩; have n0_ := Aside0.mk (Kd.R_below (qR HO408.out) hb); have n1_ := Aside0.mk (Kd.R_below (qR HO411.out) hb); have n2_ := Aside0.mk (Kd.R_lower ho0 (below_size (qB))); have n3_ := Aside0.mk (blk_below (g := gb403) (o := .cells #[.int .i64 a0_0, .slice A0_1 l0_1.length c0_1, .slice A0_2 l0_2.length c0_2] 25 (0, 0)) (qK BK403.out) hb); have n4_ := Aside0.mk (below_step (qB) hb); clear HO408; clear HO411; clear BK403; clear HB; have HO408 := n0_; have HO411 := n1_; have HO414 := n2_; have BK403 := n3_; have HB := n4_; clear n0_ n1_ n2_ n3_ n4_; (try clear hb); (try clear hb2); (try clear hk); (try clear hi); (try clear ho0); obtain ⟨Ao23, co23, eo23⟩ := Kd.R_slice HO408.out; subst eo23; obtain ⟨Ao24, co24, eo24⟩ := Kd.R_slice HO411.out; subst eo24; obtain ⟨Ao25, co25, eo25⟩ := Kd.R_slice HO414.out; subst eo25) | ((with_reducible refine gate_callee (f := 23) rfl ?_); refine goesL_ (some 30) rfl rfl Try.func23 (by kernel_rfl) rfl #[.agg #[.int .i64 t405, .slice Ao23 t406.length co23, .slice Ao24 t409.length co24], .slice Ao25 t412.length co25] rfl qG ?_; (with_reducible refine (spec_RunCircuit.calls k t405 _ _ t406 _ _ t409 _ _ t412 t415 t418 _ ?side1 ?side2 ?side3 ?side4 ?side5 ?side6 A12.out).mono ?_); (case side1 => repeat (first | exact (Kd.R_reads' HO408.out).2.2 | (with_reducible refine Kd.C_alloc ?_ _) | (with_reducible refine Kd.C_drewN ?_ _) | (with_reducible refine Kd.C_drew ?_))); (case side2 => exact (Kd.R_reads' HO408.out).2.1); (case side3 => repeat (first | exact (Kd.R_reads' HO411.out).2.2 | (with_reducible refine Kd.C_alloc ?_ _) | (with_reducible refine Kd.C_drewN ?_ _) | (with_reducible refine Kd.C_drew ?_))); (case side4 => exact (Kd.R_reads' HO411.out).2.1); (case side5 => repeat (first | exact (Kd.R_reads' HO414.out).2.2 | (with_reducible refine Kd.C_alloc ?_ _) | (with_reducible refine Kd.C_drewN ?_ _) | (with_reducible refine Kd.C_drew ?_))); (case side6 => exact (Kd.R_reads' HO414.out).2.1); rintro e w26 ⟨v416, rfl, ho0, hb⟩; refine ⟨_, rfl, ?_⟩; have n0_ := Aside0.mk (Kd.R_below (qR HO408.out) hb); have n1_ := Aside0.mk (Kd.R_below (qR HO411.out) hb); have n2_ := Aside0.mk (Kd.R_elder' (qR HO414.out) (Kd.R_base ho0) hb); have n3_ := Aside0.mk (Kd.R_lower (Kd.R_new' ho0 (Kd.R_lt (qR HO414.out))) (below_size (qB))); have n4_ := Aside0.mk (blk_below (g := gb403) (o := .cells #[.int .i64 a0_0, .slice A0_1 l0_1.length c0_1, .slice A0_2 l0_2.length c0_2] 25 (0, 0)) (qK BK403.out) hb); have n5_ := Aside0.mk (below_step (qB) hb); clear HO408; clear HO411; clear HO414; clear BK403; clear HB; have HO408 := n0_; have HO411 := n1_; have HO414 := n2_; have HO417 := n3_; have BK403 := n4_; have HB := n5_; clear n0_ n1_ n2_ n3_ n4_ n5_; (try clear hb); (try clear hb2); (try clear hk); (try clear hi); (try clear ho0); have hcz27_0 : w26.cell? ⟨gb403, 0, none⟩ = some (.int .i64 a0_0) := (blk_cell BK403.out 0).trans rfl; have hcz27_1 : w26.cell? ⟨gb403, 1, none⟩ = some (.slice A0_1 l0_1.length c0_1) := (blk_cell BK403.out 1).trans rfl; have hcz27_2 : w26.cell? ⟨gb403, 2, none⟩ = some (.slice A0_2 l0_2.length c0_2) := (blk_cell BK403.out 2).trans rfl; have hfz27_0 := blk_frozen BK403.out 0; have hfz27_1 := blk_frozen BK403.out 1; have hfz27_2 := blk_frozen BK403.out 2) | ((with_reducible refine gate_callee (f := 13) rfl ?_); refine goesL_ (some 34) rfl rfl Try.func13 (by kernel_rfl) rfl #[.agg #[.int .i64 a0_0, .slice A0_1 l0_1.length c0_1, .slice A0_2 l0_2.length c0_2]] rfl qG ?_; (with_reducible refine (laws_toCircuit.calls k a0_0 _ _ l0_1 _ _ l0_2 t419 t420 t423 _ ?side1 ?side2 ?side3 ?side4 A13.out).mono ?_); (case side1 => exact qC (Kd.C_below HR0_1.out HB.out)); (case side2 => exact HC0_1.out); (case side3 => exact qC (Kd.C_below HR0_2.out HB.out)); (case side4 => exact HC0_2.out); rintro e w28 ⟨v421, v424, rfl, ho0, ho1, hb⟩; refine ⟨_, rfl, ?_⟩; have n0_ := Aside0.mk (Kd.R_elder' (qR HO408.out) (Kd.R_base ho0) hb); have n1_ := Aside0.mk (Kd.R_elder' (qR HO411.out) (Kd.R_base ho1) hb); have n2_ := Aside0.mk (Kd.R_below (qR HO414.out) hb); have n3_ := Aside0.mk (Kd.R_below (qR HO417.out) hb); have n4_ := Aside0.mk (Kd.R_lower (Kd.R_new' ho0 (Kd.R_lt (qR HO408.out))) (below_size (qB))); have n5_ := Aside0.mk (Kd.R_lower (Kd.R_new' ho1 (Kd.R_lt (qR HO411.out))) (below_size (qB))); have n6_ := Aside0.mk (blk_below (g := gb403) (o := .cells #[.int .i64 a0_0, .slice A0_1 l0_1.length c0_1, .slice A0_2 l0_2.length c0_2] 25 (0, 0)) (qK BK403.out) hb); have n7_ := Aside0.mk (below_step (qB) hb); clear HO408; clear HO411; clear HO414; clear HO417; clear BK403; clear HB; have HO408 := n0_; have HO411 := n1_; have HO414 := n2_; have HO417 := n3_; have HO422 := n4_; have HO425 := n5_; have BK403 := n6_; have HB := n7_; clear n0_ n1_ n2_ n3_ n4_ n5_ n6_ n7_; (try clear hb); (try clear hb2); (try clear hk); (try clear hi); (try clear ho0); (try clear ho1)) | ((with_reducible refine gate_dst (N := 8) rfl ?_); refine box_event ?hg (N := 8) ?hd (cs := #[.int .i64 0, .slice none 0 0, .slice none 0 0]) (t := 30) ?hr ?_; (case hd => rfl); (case hg => rfl); (case hr => first | (go_simp; done) | (go_simp; rfl)); intro gb426 hg w29 hbox hb; have n0_ := Aside0.mk (Kd.R_below (qR HO408.out) hb); have n1_ := Aside0.mk (Kd.R_below (qR HO411.out) hb); have n2_ := Aside0.mk (Kd.R_below (qR HO414.out) hb); have n3_ := Aside0.mk (Kd.R_below (qR HO417.out) hb); have n4_ := Aside0.mk (Kd.R_below (qR HO422.out) hb); have n5_ := Aside0.mk (Kd.R_below (qR HO425.out) hb); have n6_ := Aside0.mk (blk_below (g := gb403) (o := .cells #[.int .i64 a0_0, .slice A0_1 l0_1.length c0_1, .slice A0_2 l0_2.length c0_2] 25 (0, 0)) (qK BK403.out) hb); have n7_ := Aside0.mk (below_step (qB) hb); have n8_ := Aside0.mk (hbox); have n9_ := Aside0.mk ((by rw [hg]; exact (below_size (qB)) : w.heap.size ≤ gb426)); have n10_ := Aside0.mk ((by rw [hg]; exact (below_size (qB)) : w.heap.size ≤ gb426)); have n11_ := Aside0.mk ((by rw [hg]; exact Nat.ne_of_lt (blk_lt (g := gb403) (o := .cells #[.int .i64 a0_0, .slice A0_1 l0_1.length c0_1, .slice A0_2 l0_2.length c0_2] 25 (0, 0)) (qK BK403.out)) : gb403 ≠ gb426)); have n12_ := Aside0.mk ((by rw [hg]; exact Nat.ne_of_gt (blk_lt (g := gb403) (o := .cells #[.int .i64 a0_0, .slice A0_1 l0_1.length c0_1, .slice A0_2 l0_2.length c0_2] 25 (0, 0)) (qK BK403.out)) : gb426 ≠ gb403)); clear HO408; clear HO411; clear HO414; clear HO417; clear HO422; clear HO425; clear BK403; clear HB; have HO408 := n0_; have HO411 := n1_; have HO414 := n2_; have HO417 := n3_; have HO422 := n4_; have HO425 := n5_; have BK403 := n6_; have HB := n7_; have BK426 := n8_; have GW426 := n9_; have GE426 := n10_; have NB403_426 := n11_; have NB426_403 := n12_; clear n0_ n1_ n2_ n3_ n4_ n5_ n6_ n7_ n8_ n9_ n10_ n11_ n12_; clear hb hbox hg; have hnb30 := NB426_403.out; have hnc30 := NB403_426.out; have hcz31_0 : w29.cell? ⟨gb426, 0, none⟩ = some (.int .i64 0) := (blk_cell BK426.out 0).trans rfl; have hcz31_1 : w29.cell? ⟨gb426, 1, none⟩ = some (.slice none 0 0) := (blk_cell BK426.out 1).trans rfl; have hcz31_2 : w29.cell? ⟨gb426, 2, none⟩ = some (.slice none 0 0) := (blk_cell BK426.out 2).trans rfl; have hfz31_0 := blk_frozen BK426.out 0; have hfz31_1 := blk_frozen BK426.out 1; have hfz31_2 := blk_frozen BK426.out 2; obtain ⟨Ao32, co32, eo32⟩ := Kd.R_slice HO422.out; subst eo32; obtain ⟨Ao33, co33, eo33⟩ := Kd.R_slice HO425.out; subst eo33) | ((with_reducible refine gate_callee (f := 17) rfl ?_); refine goesL_ (some 36) rfl rfl Try.func17 (by kernel_rfl) rfl #[.slice A1 l1.length c1] rfl qG ?_; (with_reducible refine (laws_toBoolS.calls k _ _ l1 t412 _ ?side1 ?side2 A14.out).mono ?_); (case side1 => exact Kd.C_below HR1.out (qB)); (case side2 => exact HC1.out); rintro e w34 ⟨v428, rfl, ho0, hb⟩; refine ⟨_, rfl, ?_⟩; have n0_ := Aside0.mk (Kd.R_below (by (with_reducible repeat (first | apply Kd.R_alloc | apply Kd.R_drewN | apply Kd.R_drew)); exact (Kd.R_mono (Kd.R_far (p := ⟨gb426, 2, none⟩) (Kd.R_far (p := ⟨gb426, 1, none⟩) (Kd.R_far (p := ⟨gb426, 0, none⟩) (Kd.R_types HO408.out BK426.out (by decide)) (fun _ hk => hk.2) (.int .i64 t419)) (fun _ hk => hk.2) (.slice Ao32 t420.length co32)) (fun _ hk => hk.2) (.slice Ao33 t423.length co33)) (fun _ h_ => h_.1))) hb); have n1_ := Aside0.mk (Kd.R_below (by (with_reducible repeat (first | apply Kd.R_alloc | apply Kd.R_drewN | apply Kd.R_drew)); exact (Kd.R_mono (Kd.R_far (p := ⟨gb426, 2, none⟩) (Kd.R_far (p := ⟨gb426, 1, none⟩) (Kd.R_far (p := ⟨gb426, 0, none⟩) (Kd.R_types HO411.out BK426.out (by decide)) (fun _ hk => hk.2) (.int .i64 t419)) (fun _ hk => hk.2) (.slice Ao32 t420.length co32)) (fun _ hk => hk.2) (.slice Ao33 t423.length co33)) (fun _ h_ => h_.1))) hb); have n2_ := Aside0.mk (Kd.R_elder' (by (with_reducible repeat (first | apply Kd.R_alloc | apply Kd.R_drewN | apply Kd.R_drew)); exact (Kd.R_mono (Kd.R_far (p := ⟨gb426, 2, none⟩) (Kd.R_far (p := ⟨gb426, 1, none⟩) (Kd.R_far (p := ⟨gb426, 0, none⟩) (Kd.R_types HO414.out BK426.out (by decide)) (fun _ hk => hk.2) (.int .i64 t419)) (fun _ hk => hk.2) (.slice Ao32 t420.length co32)) (fun _ hk => hk.2) (.slice Ao33 t423.length co33)) (fun _ h_ => h_.1))) (Kd.R_base ho0) hb); have n3_ := Aside0.mk (Kd.R_elder' (by (with_reducible repeat (first | apply Kd.R_alloc | apply Kd.R_drewN | apply Kd.R_drew)); exact (Kd.R_mono (Kd.R_far (p := ⟨gb426, 2, none⟩) (Kd.R_far (p := ⟨gb426, 1, none⟩) (Kd.R_far (p := ⟨gb426, 0, none⟩) (Kd.R_types HO417.out BK426.out (by decide)) (fun _ hk => hk.2) (.int .i64 t419)) (fun _ hk => hk.2) (.slice Ao32 t420.length co32)) (fun _ hk => hk.2) (.slice Ao33 t423.length co33)) (fun _ h_ => h_.1))) (Kd.R_base ho0) hb); have n4_ := Aside0.mk (Kd.R_below (by (with_reducible repeat (first | apply Kd.R_alloc | apply Kd.R_drewN | apply Kd.R_drew)); exact (Kd.R_mono (Kd.R_far (p := ⟨gb426, 2, none⟩) (Kd.R_far (p := ⟨gb426, 1, none⟩) (Kd.R_far (p := ⟨gb426, 0, none⟩) (Kd.R_types HO422.out BK426.out (by decide)) (fun _ hk => hk.2) (.int .i64 t419)) (fun _ hk => hk.2) (.slice Ao32 t420.length co32)) (fun _ hk => hk.2) (.slice Ao33 t423.length co33)) (fun _ h_ => h_.1))) hb); have n5_ := Aside0.mk (Kd.R_below (by (with_reducible repeat (first | apply Kd.R_alloc | apply Kd.R_drewN | apply Kd.R_drew)); exact (Kd.R_mono (Kd.R_far (p := ⟨gb426, 2, none⟩) (Kd.R_far (p := ⟨gb426, 1, none⟩) (Kd.R_far (p := ⟨gb426, 0, none⟩) (Kd.R_types HO425.out BK426.out (by decide)) (fun _ hk => hk.2) (.int .i64 t419)) (fun _ hk => hk.2) (.slice Ao32 t420.length co32)) (fun _ hk => hk.2) (.slice Ao33 t423.length co33)) (fun _ h_ => h_.1))) hb); have n6_ := Aside0.mk (Kd.R_lower (Kd.R_new' (Kd.R_new' ho0 (Kd.R_lt (by (with_reducible repeat (first | apply Kd.R_alloc | apply Kd.R_drewN | apply Kd.R_drew)); exact (Kd.R_mono (Kd.R_far (p := ⟨gb426, 2, none⟩) (Kd.R_far (p := ⟨gb426, 1, none⟩) (Kd.R_far (p := ⟨gb426, 0, none⟩) (Kd.R_types HO414.out BK426.out (by decide)) (fun _ hk => hk.2) (.int .i64 t419)) (fun _ hk => hk.2) (.slice Ao32 t420.length co32)) (fun _ hk => hk.2) (.slice Ao33 t423.length co33)) (fun _ h_ => h_.1))))) (Kd.R_lt (by (with_reducible repeat (first | apply Kd.R_alloc | apply Kd.R_drewN | apply Kd.R_drew)); exact (Kd.R_mono (Kd.R_far (p := ⟨gb426, 2, none⟩) (Kd.R_far (p := ⟨gb426, 1, none⟩) (Kd.R_far (p := ⟨gb426, 0, none⟩) (Kd.R_types HO417.out BK426.out (by decide)) (fun _ hk => hk.2) (.int .i64 t419)) (fun _ hk => hk.2) (.slice Ao32 t420.length co32)) (fun _ hk => hk.2) (.slice Ao33 t423.length co33)) (fun _ h_ => h_.1))))) (below_size (qB))); have n7_ := Aside0.mk (blk_below (g := gb403) (o := .cells #[.int .i64 a0_0, .slice A0_1 l0_1.length c0_1, .slice A0_2 l0_2.length c0_2] 25 (0, 0)) (qF BK403.out) hb); have n8_ := Aside0.mk (blk_below (g := gb426) (o := .cells #[.int .i64 t419, .slice Ao32 t420.length co32, .slice Ao33 t423.length co33] 30 (0, 0)) (by (with_reducible repeat (first | refine blk_drewN ?_ _ | refine blk_drew ?_ | refine blk_alloc ?_ _)); refine blk_put (cs := #[.int .i64 t419, .slice Ao32 t420.length co32, .slice none 0 0]) ?_ 2 _ rfl; (with_reducible repeat (first | refine blk_drewN ?_ _ | refine blk_drew ?_ | refine blk_alloc ?_ _)); refine blk_put (cs := #[.int .i64 t419, .slice none 0 0, .slice none 0 0]) ?_ 1 _ rfl; (with_reducible repeat (first | refine blk_drewN ?_ _ | refine blk_drew ?_ | refine blk_alloc ?_ _)); refine blk_put (cs := #[.int .i64 0, .slice none 0 0, .slice none 0 0]) ?_ 0 _ rfl; (with_reducible repeat (first | refine blk_drewN ?_ _ | refine blk_drew ?_ | refine blk_alloc ?_ _)); exact BK426.out) hb); have n9_ := Aside0.mk (below_step (qB) hb); clear HO408; clear HO411; clear HO414; clear HO417; clear HO422; clear HO425; clear BK403; clear BK426; clear HB; have HO408 := n0_; have HO411 := n1_; have HO414 := n2_; have HO417 := n3_; have HO422 := n4_; have HO425 := n5_; have HO429 := n6_; have BK403 := n7_; have BK426 := n8_; have HB := n9_; clear n0_ n1_ n2_ n3_ n4_ n5_ n6_ n7_ n8_ n9_; (try clear hb); (try clear hb2); (try clear hk); (try clear hi); (try clear ho0); have hcz35_0 : w34.cell? ⟨gb426, 0, none⟩ = some (.int .i64 t419) := (blk_cell BK426.out 0).trans rfl; have hcz35_1 : w34.cell? ⟨gb426, 1, none⟩ = some (.slice Ao32 t420.length co32) := (blk_cell BK426.out 1).trans rfl; have hcz35_2 : w34.cell? ⟨gb426, 2, none⟩ = some (.slice Ao33 t423.length co33) := (blk_cell BK426.out 2).trans rfl; have hfz35_0 := blk_frozen BK426.out 0; have hfz35_1 := blk_frozen BK426.out 1; have hfz35_2 := blk_frozen BK426.out 2; obtain ⟨Ao36, co36, eo36⟩ := Kd.R_slice HO429.out; subst eo36) | ((with_reducible refine gate_callee (f := 24) rfl ?_); refine goesL_ (some 40) rfl rfl Try.func24 (by kernel_rfl) rfl #[.agg #[.int .i64 t419, .slice Ao32 t420.length co32, .slice Ao33 t423.length co33], .slice Ao36 t412.length co36] rfl qG ?_; (with_reducible refine (impl_RunCircuit.calls k t419 _ _ t420 _ _ t423 _ _ t412 t430 t433 _ ?side1 ?side2 ?side3 ?side4 ?side5 ?side6 A15.out).mono ?_); (case side1 => repeat (first | exact (Kd.R_reads' HO422.out).2.2 | (with_reducible refine Kd.C_alloc ?_ _) | (with_reducible refine Kd.C_drewN ?_ _) | (with_reducible refine Kd.C_drew ?_))); (case side2 => exact (Kd.R_reads' HO422.out).2.1); (case side3 => repeat (first | exact (Kd.R_reads' HO425.out).2.2 | (with_reducible refine Kd.C_alloc ?_ _) | (with_reducible refine Kd.C_drewN ?_ _) | (with_reducible refine Kd.C_drew ?_))); (case side4 => exact (Kd.R_reads' HO425.out).2.1); (case side5 => repeat (first | exact (Kd.R_reads' HO429.out).2.2 | (with_reducible refine Kd.C_alloc ?_ _) | (with_reducible refine Kd.C_drewN ?_ _) | (with_reducible refine Kd.C_drew ?_))); (case side6 => exact (Kd.R_reads' HO429.out).2.1); rintro e w37 ⟨v431, rfl, ho0, hb⟩; refine ⟨_, rfl, ?_⟩; have n0_ := Aside0.mk (Kd.R_below (qR HO408.out) hb); have n1_ := Aside0.mk (Kd.R_below (qR HO411.out) hb); have n2_ := Aside0.mk (Kd.R_elder' (qR HO414.out) (Kd.R_base ho0) hb); have n3_ := Aside0.mk (Kd.R_elder' (qR HO417.out) (Kd.R_base ho0) hb); have n4_ := Aside0.mk (Kd.R_below (qR HO422.out) hb); have n5_ := Aside0.mk (Kd.R_below (qR HO425.out) hb); have n6_ := Aside0.mk (Kd.R_elder' (qR HO429.out) (Kd.R_base ho0) hb); have n7_ := Aside0.mk (Kd.R_lower (Kd.R_new' (Kd.R_new' (Kd.R_new' ho0 (Kd.R_lt (qR HO414.out))) (Kd.R_lt (qR HO417.out))) (Kd.R_lt (qR HO429.out))) (below_size (qB))); have n8_ := Aside0.mk (blk_below (g := gb403) (o := .cells #[.int .i64 a0_0, .slice A0_1 l0_1.length c0_1, .slice A0_2 l0_2.length c0_2] 25 (0, 0)) (qK BK403.out) hb); have n9_ := Aside0.mk (blk_below (g := gb426) (o := .cells #[.int .i64 t419, .slice Ao32 t420.length co32, .slice Ao33 t423.length co33] 30 (0, 0)) (qK BK426.out) hb); have n10_ := Aside0.mk (below_step (qB) hb); clear HO408; clear HO411; clear HO414; clear HO417; clear HO422; clear HO425; clear HO429; clear BK403; clear BK426; clear HB; have HO408 := n0_; have HO411 := n1_; have HO414 := n2_; have HO417 := n3_; have HO422 := n4_; have HO425 := n5_; have HO429 := n6_; have HO432 := n7_; have BK403 := n8_; have BK426 := n9_; have HB := n10_; clear n0_ n1_ n2_ n3_ n4_ n5_ n6_ n7_ n8_ n9_ n10_; (try clear hb); (try clear hb2); (try clear hk); (try clear hi); (try clear ho0)))
      (try simp only [Act.put, List.setIfInBounds_toArray, List.set_cons_zero, List.set_cons_succ])
      go_cut [51] (fun v51 wc => ∃ (kq : Nat) (x51_15 : Bool), v51 = .bool x51_15 ∧ Aside0 (laws_FnExactRunCircuit.j0 kq l1 t415 t418 t412 t430 t433 x51_15 a0_0 l0_1 l0_2 t419 t420 t423 = some r) ∧ Aside0 (kq ≤ k) ∧ Aside0 (Kd.R Kd.bool 4 wc w.heap.size (fun k_ => some k_ ≠ ((.slice Ao36 t412.length co36) : Value).ownBlock ∧ some k_ ≠ (v431 : Value).ownBlock) v416 t415) ∧ Aside0 (Kd.R Kd.bool 4 wc w.heap.size (fun k_ => some k_ ≠ (v416 : Value).ownBlock ∧ some k_ ≠ (v431 : Value).ownBlock) (.slice Ao36 t412.length co36) t412) ∧ Aside0 (Kd.R Kd.bool 4 wc w.heap.size (fun k_ => some k_ ≠ (v416 : Value).ownBlock ∧ some k_ ≠ ((.slice Ao36 t412.length co36) : Value).ownBlock) v431 t430) ∧ Aside0 (Kd.R k59 59 wc w.heap.size (fun _ => True) (.slice Ao32 t420.length co32) t420) ∧ Aside0 (Kd.R (Kd.int .i64) 3 wc w.heap.size (fun _ => True) (.slice Ao33 t423.length co33) t423) ∧ Aside0 (wc.heap[gb403]? = some (.cells #[.int .i64 a0_0, (.slice A0_1 l0_1.length c0_1), (.slice A0_2 l0_2.length c0_2)] 25 (0, 0))) ∧ Aside0 (wc.heap[gb426]? = some (.cells #[.int .i64 t419, (.slice Ao32 t420.length co32), (.slice Ao33 t423.length co33)] 30 (0, 0))) ∧ Aside0 (Below w.heap.size w wc))
      case first =>
        have H := HC16.out
        clear HC16
        replace H := Option.bind_eq_some_iff.mp H
        obtain ⟨t434, A380, H⟩ := H
        replace H : (if t434 = true then (laws_FnExactRunCircuit.j0 k l1 t415 t418 t412 t430 t433 (t433 != t418) a0_0 l0_1 l0_2 t419 t420 t423) else (laws_FnExactRunCircuit.j0 k l1 t415 t418 t412 t430 t433 true a0_0 l0_1 l0_2 t419 t420 t423)) = some r := H
        have A38 := Aside0.mk A380
        clear A380
        by_cases c39 : t434 = true
        · subst c39
          have H1 : (laws_FnExactRunCircuit.j0 k l1 t415 t418 t412 t430 t433 (t433 != t418) a0_0 l0_1 l0_2 t419 t420 t423) = some r := by rw [if_pos rfl] at H; exact H
          clear H
          have H := H1
          clear H1
          have H' := Aside0.mk H
          clear H
          obtain ⟨Ao40, co40, eo40⟩ := Kd.R_slice HO432.out
          subst eo40
          obtain ⟨Ao41, co41, eo41⟩ := Kd.R_slice HO417.out
          subst eo41
          go_wp2_with (first | ((with_reducible refine gate_callee (f := 19) rfl ?_); refine goesL_ (some 45) rfl rfl Try.func19 (by kernel_rfl) rfl #[.slice Ao40 t430.length co40, .slice Ao41 t415.length co41] rfl qG ?_; (with_reducible refine (laws_eqBoolS.calls k _ _ t430 _ _ t415 true _ ?side1 ?side2 ?side3 ?side4 A38.out).mono ?_); (case side1 => repeat (first | exact (Kd.R_reads' HO432.out).2.2 | (with_reducible refine Kd.C_alloc ?_ _) | (with_reducible refine Kd.C_drewN ?_ _) | (with_reducible refine Kd.C_drew ?_))); (case side2 => exact (Kd.R_reads' HO432.out).2.1); (case side3 => repeat (first | exact (Kd.R_reads' HO417.out).2.2 | (with_reducible refine Kd.C_alloc ?_ _) | (with_reducible refine Kd.C_drewN ?_ _) | (with_reducible refine Kd.C_drew ?_))); (case side4 => exact (Kd.R_reads' HO417.out).2.1); rintro e w' ⟨rfl, ⟨nd, rfl⟩⟩; refine ⟨_, rfl, ?_⟩))
          go_meet
          case rel => exact ⟨_, ((t433 != t418)), qS, H', ⟨by first | omega | exact Nat.le_refl _⟩, ⟨by (with_reducible repeat (first | apply Kd.R_alloc | apply Kd.R_drewN | apply Kd.R_drew)); exact Kd.R_mono HO417.out (fun _ hk => ⟨hk.1.2, hk.2⟩)⟩, ⟨by (with_reducible repeat (first | apply Kd.R_alloc | apply Kd.R_drewN | apply Kd.R_drew)); exact Kd.R_mono HO429.out (fun _ hk => ⟨hk.1.2, hk.2⟩)⟩, ⟨by (with_reducible repeat (first | apply Kd.R_alloc | apply Kd.R_drewN | apply Kd.R_drew)); exact Kd.R_mono HO432.out (fun _ hk => ⟨hk.1.2, hk.2⟩)⟩, ⟨by (with_reducible repeat (first | apply Kd.R_alloc | apply Kd.R_drewN | apply Kd.R_drew)); exact Kd.R_mono HO422.out (fun _ hk => trivial)⟩, ⟨by (with_reducible repeat (first | apply Kd.R_alloc | apply Kd.R_drewN | apply Kd.R_drew)); exact Kd.R_mono HO425.out (fun _ hk => trivial)⟩, ⟨by (with_reducible repeat (first | refine blk_drewN ?_ _ | refine blk_drew ?_ | refine blk_alloc ?_ _)); exact BK403.out⟩, ⟨by (with_reducible repeat (first | refine blk_drewN ?_ _ | refine blk_drew ?_ | refine blk_alloc ?_ _)); exact BK426.out⟩, ⟨qB⟩⟩
        · replace c39 := Bool.eq_false_iff.mpr c39
          subst c39
          have H1 : (laws_FnExactRunCircuit.j0 k l1 t415 t418 t412 t430 t433 true a0_0 l0_1 l0_2 t419 t420 t423) = some r := by rw [if_neg (show ¬ (false = true) by decide)] at H; exact H
          clear H
          have H := H1
          clear H1
          have H' := Aside0.mk H
          clear H
          obtain ⟨Ao42, co42, eo42⟩ := Kd.R_slice HO432.out
          subst eo42
          obtain ⟨Ao43, co43, eo43⟩ := Kd.R_slice HO417.out
          subst eo43
          go_wp2_with (first | ((with_reducible refine gate_callee (f := 19) rfl ?_); refine goesL_ (some 45) rfl rfl Try.func19 (by kernel_rfl) rfl #[.slice Ao42 t430.length co42, .slice Ao43 t415.length co43] rfl qG ?_; (with_reducible refine (laws_eqBoolS.calls k _ _ t430 _ _ t415 false _ ?side1 ?side2 ?side3 ?side4 A38.out).mono ?_); (case side1 => repeat (first | exact (Kd.R_reads' HO432.out).2.2 | (with_reducible refine Kd.C_alloc ?_ _) | (with_reducible refine Kd.C_drewN ?_ _) | (with_reducible refine Kd.C_drew ?_))); (case side2 => exact (Kd.R_reads' HO432.out).2.1); (case side3 => repeat (first | exact (Kd.R_reads' HO417.out).2.2 | (with_reducible refine Kd.C_alloc ?_ _) | (with_reducible refine Kd.C_drewN ?_ _) | (with_reducible refine Kd.C_drew ?_))); (case side4 => exact (Kd.R_reads' HO417.out).2.1); rintro e w' ⟨rfl, ⟨nd, rfl⟩⟩; refine ⟨_, rfl, ?_⟩))
          go_meet
          case rel => exact ⟨_, (true), qS, H', ⟨by first | omega | exact Nat.le_refl _⟩, ⟨by (with_reducible repeat (first | apply Kd.R_alloc | apply Kd.R_drewN | apply Kd.R_drew)); exact Kd.R_mono HO417.out (fun _ hk => ⟨hk.1.2, hk.2⟩)⟩, ⟨by (with_reducible repeat (first | apply Kd.R_alloc | apply Kd.R_drewN | apply Kd.R_drew)); exact Kd.R_mono HO429.out (fun _ hk => ⟨hk.1.2, hk.2⟩)⟩, ⟨by (with_reducible repeat (first | apply Kd.R_alloc | apply Kd.R_drewN | apply Kd.R_drew)); exact Kd.R_mono HO432.out (fun _ hk => ⟨hk.1.2, hk.2⟩)⟩, ⟨by (with_reducible repeat (first | apply Kd.R_alloc | apply Kd.R_drewN | apply Kd.R_drew)); exact Kd.R_mono HO422.out (fun _ hk => trivial)⟩, ⟨by (with_reducible repeat (first | apply Kd.R_alloc | apply Kd.R_drewN | apply Kd.R_drew)); exact Kd.R_mono HO425.out (fun _ hk => trivial)⟩, ⟨by (with_reducible repeat (first | refine blk_drewN ?_ _ | refine blk_drew ?_ | refine blk_alloc ?_ _)); exact BK403.out⟩, ⟨by (with_reducible repeat (first | refine blk_drewN ?_ _ | refine blk_drew ?_ | refine blk_alloc ?_ _)); exact BK426.out⟩, ⟨qB⟩⟩
      case rest =>
        clear HC16
        try clear c1
        try clear c2
        try clear p2
        try clear c3
        try clear c3b0
        try clear c3b1
        try clear c5
        try clear c6
        try clear c6b0
        try clear c11
        try clear c13
        try clear c17
        try clear c19
        try clear c23
        try clear c24
        try clear c30
        try clear c39
        try clear hcz18_0
        try clear hcz18_1
        try clear hcz18_2
        try clear hcz20_0
        try clear hcz20_1
        try clear hcz20_2
        try clear hcz27_0
        try clear hcz27_1
        try clear hcz27_2
        try clear hcz31_0
        try clear hcz31_1
        try clear hcz31_2
        try clear hcz35_0
        try clear hcz35_1
        try clear hcz35_2
        try clear hcz8_0
        try clear hcz8_1
        try clear hcz8_2
        try clear hfz18_0
        try clear hfz18_1
        try clear hfz18_2
        try clear hfz20_0
        try clear hfz20_1
        try clear hfz20_2
        try clear hfz27_0
        try clear hfz27_1
        try clear hfz27_2
        try clear hfz31_0
        try clear hfz31_1
        try clear hfz31_2
        try clear hfz35_0
        try clear hfz35_1
        try clear hfz35_2
        try clear hfz8_0
        try clear hfz8_1
        try clear hfz8_2
        obtain ⟨kq, x51_15, rfl, HA, HJ15, HO_6, HO_9, HO_10, HO_427001, HO_427002, BK403, BK426, HB⟩ := hcut
        cases kq with
        | zero => exact absurd HA.out (by simp [laws_FnExactRunCircuit.j0])
        | succ kj15 =>
          have H := HA.out
          clear HA
          simp only [laws_FnExactRunCircuit.j0] at H
          by_cases c44 : x51_15 = true
          · subst c44
            have H1 : (some false) = some r := by rw [if_pos rfl] at H; exact H
            clear H
            have H := H1
            clear H1
            obtain rfl := Option.some.inj H
            go_wp2
            go_ret
            exact ⟨qE, qB⟩
          · replace c44 := Bool.eq_false_iff.mpr c44
            subst c44
            have H1 : ((laws_toCircuit.f kj15 a0_0 l0_1 l0_2).bind fun bt435 => ((laws_eqCircuit.f kj15 t419 t420 t423 bt435.1 bt435.2.1 bt435.2.2).bind fun t442 => (if t442 = true then ((laws_toBoolS.f kj15 l1).bind fun t443 => ((laws_eqBoolS.f kj15 t412 t443).bind fun t446 => (if t446 = true then ((laws_markCircuit.f kj15 t419 t420 t423 1).bind fun bt447 => ((laws_markBoolS.f kj15 t412 bt447.1).bind fun bt450 => (if bt450.1 < 0 then (laws_FnExactRunCircuit.j1 kj15 l1 t415 t418 t430 true a0_0 l0_1 l0_2) else ((laws_eqBoolS.f kj15 t430 t415).bind fun t452 => (if t452 = true then (laws_FnExactRunCircuit.j1 kj15 l1 t415 t418 t430 (t433 != t418) a0_0 l0_1 l0_2) else (laws_FnExactRunCircuit.j1 kj15 l1 t415 t418 t430 true a0_0 l0_1 l0_2)))))) else (some false)))) else (some false)))) = some r := by rw [if_neg (show ¬ (false = true) by decide)] at H; exact H
            clear H
            have H := H1
            clear H1
            replace H := Option.bind_eq_some_iff.mp H
            obtain ⟨⟨t435, t436, t439⟩, A450, H⟩ := H
            replace H : ((laws_eqCircuit.f kj15 t419 t420 t423 t435 t436 t439).bind fun t442 => (if t442 = true then ((laws_toBoolS.f kj15 l1).bind fun t443 => ((laws_eqBoolS.f kj15 t412 t443).bind fun t446 => (if t446 = true then ((laws_markCircuit.f kj15 t419 t420 t423 1).bind fun bt447 => ((laws_markBoolS.f kj15 t412 bt447.1).bind fun bt450 => (if bt450.1 < 0 then (laws_FnExactRunCircuit.j1 kj15 l1 t415 t418 t430 true a0_0 l0_1 l0_2) else ((laws_eqBoolS.f kj15 t430 t415).bind fun t452 => (if t452 = true then (laws_FnExactRunCircuit.j1 kj15 l1 t415 t418 t430 (t433 != t418) a0_0 l0_1 l0_2) else (laws_FnExactRunCircuit.j1 kj15 l1 t415 t418 t430 true a0_0 l0_1 l0_2)))))) else (some false)))) else (some false))) = some r := H
            have A45 := Aside0.mk A450
            clear A450
            replace H := Option.bind_eq_some_iff.mp H
            obtain ⟨t442, A460, H⟩ := H
            replace H : (if t442 = true then ((laws_toBoolS.f kj15 l1).bind fun t443 => ((laws_eqBoolS.f kj15 t412 t443).bind fun t446 => (if t446 = true then ((laws_markCircuit.f kj15 t419 t420 t423 1).bind fun bt447 => ((laws_markBoolS.f kj15 t412 bt447.1).bind fun bt450 => (if bt450.1 < 0 then (laws_FnExactRunCircuit.j1 kj15 l1 t415 t418 t430 true a0_0 l0_1 l0_2) else ((laws_eqBoolS.f kj15 t430 t415).bind fun t452 => (if t452 = true then (laws_FnExactRunCircuit.j1 kj15 l1 t415 t418 t430 (t433 != t418) a0_0 l0_1 l0_2) else (laws_FnExactRunCircuit.j1 kj15 l1 t415 t418 t430 true a0_0 l0_1 l0_2)))))) else (some false)))) else (some false)) = some r := H
            have A46 := Aside0.mk A460
            clear A460
            by_cases c47 : t442 = true
            · subst c47
              have H1 : ((laws_toBoolS.f kj15 l1).bind fun t443 => ((laws_eqBoolS.f kj15 t412 t443).bind fun t446 => (if t446 = true then ((laws_markCircuit.f kj15 t419 t420 t423 1).bind fun bt447 => ((laws_markBoolS.f kj15 t412 bt447.1).bind fun bt450 => (if bt450.1 < 0 then (laws_FnExactRunCircuit.j1 kj15 l1 t415 t418 t430 true a0_0 l0_1 l0_2) else ((laws_eqBoolS.f kj15 t430 t415).bind fun t452 => (if t452 = true then (laws_FnExactRunCircuit.j1 kj15 l1 t415 t418 t430 (t433 != t418) a0_0 l0_1 l0_2) else (laws_FnExactRunCircuit.j1 kj15 l1 t415 t418 t430 true a0_0 l0_1 l0_2)))))) else (some false)))) = some r := by rw [if_pos rfl] at H; exact H
              clear H
              have H := H1
              clear H1
              replace H := Option.bind_eq_some_iff.mp H
              obtain ⟨t443, A480, H⟩ := H
              replace H : ((laws_eqBoolS.f kj15 t412 t443).bind fun t446 => (if t446 = true then ((laws_markCircuit.f kj15 t419 t420 t423 1).bind fun bt447 => ((laws_markBoolS.f kj15 t412 bt447.1).bind fun bt450 => (if bt450.1 < 0 then (laws_FnExactRunCircuit.j1 kj15 l1 t415 t418 t430 true a0_0 l0_1 l0_2) else ((laws_eqBoolS.f kj15 t430 t415).bind fun t452 => (if t452 = true then (laws_FnExactRunCircuit.j1 kj15 l1 t415 t418 t430 (t433 != t418) a0_0 l0_1 l0_2) else (laws_FnExactRunCircuit.j1 kj15 l1 t415 t418 t430 true a0_0 l0_1 l0_2)))))) else (some false))) = some r := H
              have A48 := Aside0.mk A480
              clear A480
              replace H := Option.bind_eq_some_iff.mp H
              obtain ⟨t446, A490, H⟩ := H
              replace H : (if t446 = true then ((laws_markCircuit.f kj15 t419 t420 t423 1).bind fun bt447 => ((laws_markBoolS.f kj15 t412 bt447.1).bind fun bt450 => (if bt450.1 < 0 then (laws_FnExactRunCircuit.j1 kj15 l1 t415 t418 t430 true a0_0 l0_1 l0_2) else ((laws_eqBoolS.f kj15 t430 t415).bind fun t452 => (if t452 = true then (laws_FnExactRunCircuit.j1 kj15 l1 t415 t418 t430 (t433 != t418) a0_0 l0_1 l0_2) else (laws_FnExactRunCircuit.j1 kj15 l1 t415 t418 t430 true a0_0 l0_1 l0_2)))))) else (some false)) = some r := H
              have A49 := Aside0.mk A490
              clear A490
              by_cases c50 : t446 = true
              · subst c50
                have H1 : ((laws_markCircuit.f kj15 t419 t420 t423 1).bind fun bt447 => ((laws_markBoolS.f kj15 t412 bt447.1).bind fun bt450 => (if bt450.1 < 0 then (laws_FnExactRunCircuit.j1 kj15 l1 t415 t418 t430 true a0_0 l0_1 l0_2) else ((laws_eqBoolS.f kj15 t430 t415).bind fun t452 => (if t452 = true then (laws_FnExactRunCircuit.j1 kj15 l1 t415 t418 t430 (t433 != t418) a0_0 l0_1 l0_2) else (laws_FnExactRunCircuit.j1 kj15 l1 t415 t418 t430 true a0_0 l0_1 l0_2)))))) = some r := by rw [if_pos rfl] at H; exact H
                clear H
                have H := H1
                clear H1
                replace H := Option.bind_eq_some_iff.mp H
                obtain ⟨⟨t447, t448, t449⟩, A510, H⟩ := H
                replace H : ((laws_markBoolS.f kj15 t412 t447).bind fun bt450 => (if bt450.1 < 0 then (laws_FnExactRunCircuit.j1 kj15 l1 t415 t418 t430 true a0_0 l0_1 l0_2) else ((laws_eqBoolS.f kj15 t430 t415).bind fun t452 => (if t452 = true then (laws_FnExactRunCircuit.j1 kj15 l1 t415 t418 t430 (t433 != t418) a0_0 l0_1 l0_2) else (laws_FnExactRunCircuit.j1 kj15 l1 t415 t418 t430 true a0_0 l0_1 l0_2))))) = some r := H
                have A51 := Aside0.mk A510
                clear A510
                replace H := Option.bind_eq_some_iff.mp H
                obtain ⟨⟨t450, t451⟩, A520, H⟩ := H
                replace H : (if t450 < 0 then (laws_FnExactRunCircuit.j1 kj15 l1 t415 t418 t430 true a0_0 l0_1 l0_2) else ((laws_eqBoolS.f kj15 t430 t415).bind fun t452 => (if t452 = true then (laws_FnExactRunCircuit.j1 kj15 l1 t415 t418 t430 (t433 != t418) a0_0 l0_1 l0_2) else (laws_FnExactRunCircuit.j1 kj15 l1 t415 t418 t430 true a0_0 l0_1 l0_2)))) = some r := H
                have A52 := Aside0.mk A520
                clear A520
                have HC53 := Aside0.mk H
                clear H
                try go_wp2
                have n0_ := Aside0.mk (Kd.R_drew HO_6.out)
                have n1_ := Aside0.mk (Kd.R_drew HO_9.out)
                have n2_ := Aside0.mk (Kd.R_drew HO_10.out)
                have n3_ := Aside0.mk (Kd.R_drew HO_427001.out)
                have n4_ := Aside0.mk (Kd.R_drew HO_427002.out)
                have n5_ := Aside0.mk (blk_drew BK403.out)
                have n6_ := Aside0.mk (blk_drew BK426.out)
                have n7_ := Aside0.mk (below_drew1 HB.out)
                clear HO_6
                clear HO_9
                clear HO_10
                clear HO_427001
                clear HO_427002
                clear BK403
                clear BK426
                clear HB
                have HO_6 := n0_
                have HO_9 := n1_
                have HO_10 := n2_
                have HO_427001 := n3_
                have HO_427002 := n4_
                have BK403 := n5_
                have BK426 := n6_
                have HB := n7_
                clear n0_ n1_ n2_ n3_ n4_ n5_ n6_ n7_
                refine start_ (n := 5) (S := fun w' => w'.cell? ⟨gb426, 0, none⟩ = some (.int .i64 t419) ∧ w'.cell? ⟨gb426, 1, none⟩ = some (.slice Ao32 t420.length co32) ∧ w'.cell? ⟨gb426, 2, none⟩ = some (.slice Ao33 t423.length co33) ∧ w'.cell? ⟨gb403, 0, none⟩ = some (.int .i64 a0_0) ∧ w'.cell? ⟨gb403, 1, none⟩ = some (.slice A0_1 l0_1.length c0_1) ∧ w'.cell? ⟨gb403, 2, none⟩ = some (.slice A0_2 l0_2.length c0_2)) (ds := []) #[false, false, false, false, false] (by kernel_rfl) rfl rfl ⟨(blk_cell BK426.out 0).trans rfl, (blk_cell BK426.out 1).trans rfl, (blk_cell BK426.out 2).trans rfl, (blk_cell BK403.out 0).trans rfl, (blk_cell BK403.out 1).trans rfl, (blk_cell BK403.out 2).trans rfl⟩ (fun hHeld => ?_)
                generalize wc.drew = w54 at HO_6 HO_9 HO_10 HO_427001 HO_427002 BK403 BK426 HB hHeld ⊢
                refine take_ (i := 0) (N := some 52) (v := ?_) (a' := ?_) #[true, false, false, false, false] rfl rfl (by kernel_rfl) (fun _ _ _ h => h) (Or.inl ⟨by rfl, ?_⟩) hHeld ?_ ?_
                rotate_left
                · rintro w' ⟨s0, s1, s2, s3, s4, s5⟩
                  go_simp
                  with_reducible rfl
                rotate_left
                · simp only [Act.put, List.setIfInBounds_toArray, List.set_cons_zero, List.set_cons_succ, i64_w, i32_w]
                  rfl
                refine take_ (i := 1) (N := some 53) (v := ?_) (a' := ?_) #[true, true, false, false, false] rfl rfl (by kernel_rfl) (fun _ _ _ h => h) (Or.inl ⟨by rfl, ?_⟩) hHeld ?_ ?_
                rotate_left
                · rintro w' ⟨s0, s1, s2, s3, s4, s5⟩
                  go_simp
                  with_reducible rfl
                rotate_left
                · simp only [Act.put, List.setIfInBounds_toArray, List.set_cons_zero, List.set_cons_succ, i64_w, i32_w]
                  rfl
                refine one_ (i := 2) (N := some 54) #[true, true, true, false, false] rfl rfl (by kernel_rfl) (by decide) (fun K hK => ?_)
                refine goes_ Try.func13 (by kernel_rfl) rfl #[.agg #[.int .i64 a0_0, .slice A0_1 l0_1.length c0_1, .slice A0_2 l0_2.length c0_2]] (by rfl) rfl rfl qG ?_
                with_reducible refine (laws_toCircuit.calls kj15 a0_0 _ _ l0_1 _ _ l0_2 t435 t436 t439 _ ?side1 ?side2 ?side3 ?side4 A45.out).mono ?_
                (case side1 => exact qC (Kd.C_below HR0_1.out HB.out))
                (case side2 => exact HC0_1.out)
                (case side3 => exact qC (Kd.C_below HR0_2.out HB.out))
                (case side4 => exact HC0_2.out)
                rintro e w55 ⟨v437, v440, rfl, ho0, ho1, hb⟩
                refine ⟨_, rfl, ?_⟩
                have n0_ := Aside0.mk (Kd.R_below (qR HO_6.out) hb)
                have n1_ := Aside0.mk (Kd.R_below (qR HO_9.out) hb)
                have n2_ := Aside0.mk (Kd.R_below (qR HO_10.out) hb)
                have n3_ := Aside0.mk (Kd.R_elder' (qR HO_427001.out) (Kd.R_base ho0) hb)
                have n4_ := Aside0.mk (Kd.R_elder' (qR HO_427002.out) (Kd.R_base ho1) hb)
                have n5_ := Aside0.mk (Kd.R_lower (Kd.R_new' ho0 (Kd.R_lt (qR HO_427001.out))) (below_size (qB)))
                have n6_ := Aside0.mk (Kd.R_lower (Kd.R_new' ho1 (Kd.R_lt (qR HO_427002.out))) (below_size (qB)))
                have n7_ := Aside0.mk (blk_below (g := gb403) (o := .cells #[.int .i64 a0_0, .slice A0_1 l0_1.length c0_1, .slice A0_2 l0_2.length c0_2] 25 (0, 0)) (qK BK403.out) hb)
                have n8_ := Aside0.mk (blk_below (g := gb426) (o := .cells #[.int .i64 t419, .slice Ao32 t420.length co32, .slice Ao33 t423.length co33] 30 (0, 0)) (qK BK426.out) hb)
                have n9_ := Aside0.mk (below_step (qB) hb)
                clear HO_6
                clear HO_9
                clear HO_10
                clear HO_427001
                clear HO_427002
                clear BK403
                clear BK426
                clear HB
                have HO_6 := n0_
                have HO_9 := n1_
                have HO_10 := n2_
                have HO_427001 := n3_
                have HO_427002 := n4_
                have HO438 := n5_
                have HO441 := n6_
                have BK403 := n7_
                have BK426 := n8_
                have HB := n9_
                clear n0_ n1_ n2_ n3_ n4_ n5_ n6_ n7_ n8_ n9_
                (try clear hb)
                (try clear hb2)
                (try clear hk)
                (try clear hi)
                (try clear ho0)
                (try clear ho1)
                obtain ⟨Ao56, co56, eo56⟩ := Kd.R_slice HO438.out
                (first | subst eo56 | (injection eo56 with f1_ f2_ f3_; have f4_ := f1_.symm; have f5_ := f3_.symm; clear f1_ f2_ f3_; subst f4_; subst f5_))
                obtain ⟨Ao57, co57, eo57⟩ := Kd.R_slice HO441.out
                (first | subst eo57 | (injection eo57 with f1_ f2_ f3_; have f4_ := f1_.symm; have f5_ := f3_.symm; clear f1_ f2_ f3_; subst f4_; subst f5_))
                refine hK.out _ _ ⟨(blk_cell BK426.out 0).trans rfl, (blk_cell BK426.out 1).trans rfl, (blk_cell BK426.out 2).trans rfl, (blk_cell BK403.out 0).trans rfl, (blk_cell BK403.out 1).trans rfl, (blk_cell BK403.out 2).trans rfl⟩ (fun hHeld => ?_)
                clear hK K
                refine norm_ (a' := ?_) ?_ ?_
                rotate_left
                · show Act.put _ (some 54) _ = _
                  simp only [Act.put, List.setIfInBounds_toArray, List.set_cons_zero, List.set_cons_succ, i64_w, i32_w]
                  rfl
                refine one_ (i := 3) (N := some 55) #[true, true, true, true, false] rfl rfl (by kernel_rfl) (by decide) (fun K hK => ?_)
                refine goes_ Try.func15 (by kernel_rfl) rfl #[.agg #[.int .i64 t419, .slice Ao32 t420.length co32, .slice Ao33 t423.length co33], .agg #[.int .i64 t435, .slice Ao56 t436.length co56, .slice Ao57 t439.length co57]] (by rfl) rfl rfl qG ?_
                with_reducible refine (laws_eqCircuit.calls kj15 t419 _ _ t420 _ _ t423 t435 _ _ t436 _ _ t439 true _ ?side1 ?side2 ?side3 ?side4 ?side5 ?side6 ?side7 ?side8 A46.out).mono ?_
                (case side1 => repeat (first | exact (Kd.R_reads' HO_427001.out).2.2 | (with_reducible refine Kd.C_alloc ?_ _) | (with_reducible refine Kd.C_drewN ?_ _) | (with_reducible refine Kd.C_drew ?_)))
                (case side2 => exact (Kd.R_reads' HO_427001.out).2.1)
                (case side3 => repeat (first | exact (Kd.R_reads' HO_427002.out).2.2 | (with_reducible refine Kd.C_alloc ?_ _) | (with_reducible refine Kd.C_drewN ?_ _) | (with_reducible refine Kd.C_drew ?_)))
                (case side4 => exact (Kd.R_reads' HO_427002.out).2.1)
                (case side5 => repeat (first | exact (Kd.R_reads' HO438.out).2.2 | (with_reducible refine Kd.C_alloc ?_ _) | (with_reducible refine Kd.C_drewN ?_ _) | (with_reducible refine Kd.C_drew ?_)))
                (case side6 => exact (Kd.R_reads' HO438.out).2.1)
                (case side7 => repeat (first | exact (Kd.R_reads' HO441.out).2.2 | (with_reducible refine Kd.C_alloc ?_ _) | (with_reducible refine Kd.C_drewN ?_ _) | (with_reducible refine Kd.C_drew ?_)))
                (case side8 => exact (Kd.R_reads' HO441.out).2.1)
                rintro e w58 ⟨rfl, hb⟩
                refine ⟨_, rfl, ?_⟩
                have n0_ := Aside0.mk (Kd.R_below (qR HO_6.out) hb)
                have n1_ := Aside0.mk (Kd.R_below (qR HO_9.out) hb)
                have n2_ := Aside0.mk (Kd.R_below (qR HO_10.out) hb)
                have n3_ := Aside0.mk (Kd.R_below (qR HO_427001.out) hb)
                have n4_ := Aside0.mk (Kd.R_below (qR HO_427002.out) hb)
                have n5_ := Aside0.mk (Kd.R_below (qR HO438.out) hb)
                have n6_ := Aside0.mk (Kd.R_below (qR HO441.out) hb)
                have n7_ := Aside0.mk (blk_below (g := gb403) (o := .cells #[.int .i64 a0_0, .slice A0_1 l0_1.length c0_1, .slice A0_2 l0_2.length c0_2] 25 (0, 0)) (qK BK403.out) hb)
                have n8_ := Aside0.mk (blk_below (g := gb426) (o := .cells #[.int .i64 t419, .slice Ao32 t420.length co32, .slice Ao33 t423.length co33] 30 (0, 0)) (qK BK426.out) hb)
                have n9_ := Aside0.mk (below_step (qB) hb)
                clear HO_6
                clear HO_9
                clear HO_10
                clear HO_427001
                clear HO_427002
                clear HO438
                clear HO441
                clear BK403
                clear BK426
                clear HB
                have HO_6 := n0_
                have HO_9 := n1_
                have HO_10 := n2_
                have HO_427001 := n3_
                have HO_427002 := n4_
                have HO438 := n5_
                have HO441 := n6_
                have BK403 := n7_
                have BK426 := n8_
                have HB := n9_
                clear n0_ n1_ n2_ n3_ n4_ n5_ n6_ n7_ n8_ n9_
                (try clear hb)
                (try clear hb2)
                (try clear hk)
                (try clear hi)
                refine hK.out _ _ ⟨(blk_cell BK426.out 0).trans rfl, (blk_cell BK426.out 1).trans rfl, (blk_cell BK426.out 2).trans rfl, (blk_cell BK403.out 0).trans rfl, (blk_cell BK403.out 1).trans rfl, (blk_cell BK403.out 2).trans rfl⟩ (fun hHeld => ?_)
                clear hK K
                refine norm_ (a' := ?_) ?_ ?_
                rotate_left
                · show Act.put _ (some 55) _ = _
                  simp only [Act.put, List.setIfInBounds_toArray, List.set_cons_zero, List.set_cons_succ, i64_w, i32_w]
                  rfl
                refine pure_ (i := 4) (N := some 56) (v := ?_) (a' := ?_) #[true, true, true, true, true] rfl rfl (by kernel_rfl) (fun _ _ _ h => h) (Or.inl ⟨by rfl, ?_⟩) ?_ ?_
                rotate_left
                · intro w'
                  go_simp
                  with_reducible rfl
                rotate_left
                · simp only [Act.put, List.setIfInBounds_toArray, List.set_cons_zero, List.set_cons_succ, i64_w, i32_w]
                  rfl
                refine done_ (by kernel_rfl) ?_
                go_upto_region 20 with (first | ((with_reducible refine gate_callee (f := 17) rfl ?_); refine goesL_ (some 59) rfl rfl Try.func17 (by kernel_rfl) rfl #[.slice A1 l1.length c1] rfl qG ?_; (with_reducible refine (laws_toBoolS.calls kj15 _ _ l1 t443 _ ?side1 ?side2 A48.out).mono ?_); (case side1 => exact qC (Kd.C_below HR1.out HB.out)); (case side2 => exact HC1.out); rintro e w59 ⟨v444, rfl, ho0, hb⟩; refine ⟨_, rfl, ?_⟩; have n0_ := Aside0.mk (Kd.R_elder' (qR HO_6.out) (Kd.R_base ho0) hb); have n1_ := Aside0.mk (Kd.R_elder' (qR HO_9.out) (Kd.R_base ho0) hb); have n2_ := Aside0.mk (Kd.R_elder' (qR HO_10.out) (Kd.R_base ho0) hb); have n3_ := Aside0.mk (Kd.R_below (qR HO_427001.out) hb); have n4_ := Aside0.mk (Kd.R_below (qR HO_427002.out) hb); have n5_ := Aside0.mk (Kd.R_below (qR HO438.out) hb); have n6_ := Aside0.mk (Kd.R_below (qR HO441.out) hb); have n7_ := Aside0.mk (Kd.R_lower (Kd.R_new' (Kd.R_new' (Kd.R_new' ho0 (Kd.R_lt (qR HO_6.out))) (Kd.R_lt (qR HO_9.out))) (Kd.R_lt (qR HO_10.out))) (below_size (qB))); have n8_ := Aside0.mk (blk_below (g := gb403) (o := .cells #[.int .i64 a0_0, .slice A0_1 l0_1.length c0_1, .slice A0_2 l0_2.length c0_2] 25 (0, 0)) (qK BK403.out) hb); have n9_ := Aside0.mk (blk_below (g := gb426) (o := .cells #[.int .i64 t419, .slice Ao32 t420.length co32, .slice Ao33 t423.length co33] 30 (0, 0)) (qK BK426.out) hb); have n10_ := Aside0.mk (below_step (qB) hb); clear HO_6; clear HO_9; clear HO_10; clear HO_427001; clear HO_427002; clear HO438; clear HO441; clear BK403; clear BK426; clear HB; have HO_6 := n0_; have HO_9 := n1_; have HO_10 := n2_; have HO_427001 := n3_; have HO_427002 := n4_; have HO438 := n5_; have HO441 := n6_; have HO445 := n7_; have BK403 := n8_; have BK426 := n9_; have HB := n10_; clear n0_ n1_ n2_ n3_ n4_ n5_ n6_ n7_ n8_ n9_ n10_; (try clear hb); (try clear hb2); (try clear hk); (try clear hi); (try clear ho0); obtain ⟨Ao60, co60, eo60⟩ := Kd.R_slice HO445.out; subst eo60) | ((with_reducible refine gate_callee (f := 19) rfl ?_); refine goesL_ (some 60) rfl rfl Try.func19 (by kernel_rfl) rfl #[.slice Ao36 t412.length co36, .slice Ao60 t443.length co60] rfl qG ?_; (with_reducible refine (laws_eqBoolS.calls kj15 _ _ t412 _ _ t443 true _ ?side1 ?side2 ?side3 ?side4 A49.out).mono ?_); (case side1 => repeat (first | exact (Kd.R_reads' HO_9.out).2.2 | (with_reducible refine Kd.C_alloc ?_ _) | (with_reducible refine Kd.C_drewN ?_ _) | (with_reducible refine Kd.C_drew ?_))); (case side2 => exact (Kd.R_reads' HO_9.out).2.1); (case side3 => repeat (first | exact (Kd.R_reads' HO445.out).2.2 | (with_reducible refine Kd.C_alloc ?_ _) | (with_reducible refine Kd.C_drewN ?_ _) | (with_reducible refine Kd.C_drew ?_))); (case side4 => exact (Kd.R_reads' HO445.out).2.1); rintro e w' ⟨rfl, ⟨nd, rfl⟩⟩; refine ⟨_, rfl, ?_⟩; have hnb61 := NB426_403.out; have hnc61 := NB403_426.out; have hcz62_0 : w59.cell? ⟨gb426, 0, none⟩ = some (.int .i64 t419) := (blk_cell BK426.out 0).trans rfl; have hcz62_1 : w59.cell? ⟨gb426, 1, none⟩ = some (.slice Ao32 t420.length co32) := (blk_cell BK426.out 1).trans rfl; have hcz62_2 : w59.cell? ⟨gb426, 2, none⟩ = some (.slice Ao33 t423.length co33) := (blk_cell BK426.out 2).trans rfl; have hfz62_0 := blk_frozen BK426.out 0; have hfz62_1 := blk_frozen BK426.out 1; have hfz62_2 := blk_frozen BK426.out 2) | ((with_reducible refine gate_callee (f := 20) rfl ?_); refine goesL_ (some 64) rfl rfl Try.func20 (by kernel_rfl) rfl #[.agg #[.int .i64 t419, .slice Ao32 t420.length co32, .slice Ao33 t423.length co33], .int .i64 1] rfl qG ?_; (with_reducible refine (laws_markCircuit.calls kj15 t419 (fun k_ => some k_ = (.slice Ao32 t420.length co32 : Value).ownBlock) (.slice Ao32 t420.length co32) t420 (fun k_ => some k_ = (.slice Ao33 t423.length co33 : Value).ownBlock) (.slice Ao33 t423.length co33) t423 1 t447 t448 t449 w _ ?side1 ?side2 ?side3 A51.out).mono ?_); (case side1 => repeat (first | (with_reducible first | exact HB.out | apply below_alloc | apply pw_below_drewN | apply below_drew1 | refine below_set ?_ GE403.out | refine below_set ?_ GE426.out) | exact HB.out)); (case side2 => exact Kd.R_tight rfl HO_427001.out); (case side3 => exact Kd.R_tight rfl HO_427002.out); rintro e w63 ⟨rfl, hy0, hy1, hb, hkp⟩; refine ⟨_, rfl, ?_⟩; have n0_ := Aside0.mk (Kd.R_mono (ok' := fun k_ => some k_ ≠ (.slice Ao36 t412.length co36 : Value).ownBlock ∧ some k_ ≠ (v431 : Value).ownBlock ∧ some k_ ≠ (.slice Ao60 t443.length co60 : Value).ownBlock) (Kd.R_keptB ((Kd.R_apart' (Kd.R_apart' HO_6.out (Kd.R_typed HO_427001.out) (by decide)) (Kd.R_typed HO_427002.out) (by decide))) hkp (fun k_ hk_ hs_ => Or.elim hs_ (fun e_ => (hk_.1.2) e_) (fun e_ => (hk_.2) e_))) (fun k_ hk_ => ⟨hk_.1.1.1.1.1, hk_.1.1.1.1.2, hk_.1.1.1.2⟩)); have n1_ := Aside0.mk (Kd.R_mono (ok' := fun k_ => some k_ ≠ (v416 : Value).ownBlock ∧ some k_ ≠ (v431 : Value).ownBlock ∧ some k_ ≠ (.slice Ao60 t443.length co60 : Value).ownBlock) (Kd.R_keptB ((Kd.R_apart' (Kd.R_apart' HO_9.out (Kd.R_typed HO_427001.out) (by decide)) (Kd.R_typed HO_427002.out) (by decide))) hkp (fun k_ hk_ hs_ => Or.elim hs_ (fun e_ => (hk_.1.2) e_) (fun e_ => (hk_.2) e_))) (fun k_ hk_ => ⟨hk_.1.1.1.1.1, hk_.1.1.1.1.2, hk_.1.1.1.2⟩)); have n2_ := Aside0.mk (Kd.R_mono (ok' := fun k_ => some k_ ≠ (v416 : Value).ownBlock ∧ some k_ ≠ (.slice Ao36 t412.length co36 : Value).ownBlock ∧ some k_ ≠ (.slice Ao60 t443.length co60 : Value).ownBlock) (Kd.R_keptB ((Kd.R_apart' (Kd.R_apart' HO_10.out (Kd.R_typed HO_427001.out) (by decide)) (Kd.R_typed HO_427002.out) (by decide))) hkp (fun k_ hk_ hs_ => Or.elim hs_ (fun e_ => (hk_.1.2) e_) (fun e_ => (hk_.2) e_))) (fun k_ hk_ => ⟨hk_.1.1.1.1.1, hk_.1.1.1.1.2, hk_.1.1.1.2⟩)); have n3_ := Aside0.mk (Kd.R_reok rfl hy0 (fun k_ e_ => HO_427001.out.1 k_ e_)); have n4_ := Aside0.mk (Kd.R_reok rfl hy1 (fun k_ e_ => HO_427002.out.1 k_ e_)); have n5_ := Aside0.mk (blk_kept (qK BK403.out) hkp (fun hs_ => Or.elim hs_ (fun e_ => (fun e_ => (Kd.R_ne HO_427001.out BK403.out (by decide)) e_) e_) (fun e_ => (fun e_ => (Kd.R_ne HO_427002.out BK403.out (by decide)) e_) e_))); have n6_ := Aside0.mk (blk_kept (qK BK426.out) hkp (fun hs_ => Or.elim hs_ (fun e_ => (fun e_ => (Kd.R_ne HO_427001.out BK426.out (by decide)) e_) e_) (fun e_ => (fun e_ => (Kd.R_ne HO_427002.out BK426.out (by decide)) e_) e_))); have n7_ := Aside0.mk (Kd.R_mono (ok' := fun k_ => some k_ ≠ (.slice Ao32 t420.length co32 : Value).ownBlock) (Kd.R_keptB ((Kd.R_apart' HO438.out (Kd.R_typed HO_427002.out) (by decide))) hkp (fun k_ hk_ hs_ => Or.elim hs_ (fun e_ => (hk_.1.2) e_) (fun e_ => (hk_.2) e_))) (fun k_ hk_ => hk_.1.1.2)); have n8_ := Aside0.mk (Kd.R_mono (ok' := fun k_ => some k_ ≠ (.slice Ao33 t423.length co33 : Value).ownBlock) (Kd.R_keptB ((Kd.R_apart' HO441.out (Kd.R_typed HO_427001.out) (by decide))) hkp (fun k_ hk_ hs_ => Or.elim hs_ (fun e_ => (hk_.2) e_) (fun e_ => (hk_.1.2) e_))) (fun k_ hk_ => hk_.1.1.2)); have n9_ := Aside0.mk (Kd.R_mono (ok' := fun k_ => some k_ ≠ (v416 : Value).ownBlock ∧ some k_ ≠ (.slice Ao36 t412.length co36 : Value).ownBlock ∧ some k_ ≠ (v431 : Value).ownBlock) (Kd.R_keptB ((Kd.R_apart' (Kd.R_apart' HO445.out (Kd.R_typed HO_427001.out) (by decide)) (Kd.R_typed HO_427002.out) (by decide))) hkp (fun k_ hk_ hs_ => Or.elim hs_ (fun e_ => (hk_.1.2) e_) (fun e_ => (hk_.2) e_))) (fun k_ hk_ => ⟨hk_.1.1.1.1.1.2, hk_.1.1.1.1.2, hk_.1.1.1.2⟩)); have n10_ := Aside0.mk (hb); clear HO_6; clear HO_9; clear HO_10; clear HO_427001; clear HO_427002; clear BK403; clear BK426; clear HO438; clear HO441; clear HO445; clear HB; have HO_6 := n0_; have HO_9 := n1_; have HO_10 := n2_; have HO_427001 := n3_; have HO_427002 := n4_; have BK403 := n5_; have BK426 := n6_; have HO438 := n7_; have HO441 := n8_; have HO445 := n9_; have HB := n10_; clear n0_ n1_ n2_ n3_ n4_ n5_ n6_ n7_ n8_ n9_ n10_; (try clear hb); (try clear hkp); (try clear hy0); (try clear hy1)) | ((with_reducible refine gate_callee (f := 21) rfl ?_); refine goesL_ (some 67) rfl rfl Try.func21 (by kernel_rfl) rfl #[.slice Ao36 t412.length co36, .int .i64 t447] rfl qG ?_; (with_reducible refine (laws_markBoolS.calls kj15 (fun k_ => some k_ = (.slice Ao36 t412.length co36 : Value).ownBlock) (.slice Ao36 t412.length co36) t412 t447 t450 t451 w _ ?side1 ?side2 A52.out).mono ?_); (case side1 => repeat (first | (with_reducible first | exact HB.out | apply below_alloc | apply pw_below_drewN | apply below_drew1 | refine below_set ?_ GE403.out | refine below_set ?_ GE426.out) | exact HB.out)); (case side2 => exact Kd.R_tight rfl HO_9.out); rintro e w64 ⟨rfl, hy0, hb, hkp⟩; refine ⟨_, rfl, ?_⟩; have n0_ := Aside0.mk (Kd.R_mono (ok' := fun k_ => some k_ ≠ (.slice Ao36 t412.length co36 : Value).ownBlock ∧ some k_ ≠ (v431 : Value).ownBlock ∧ some k_ ≠ (.slice Ao60 t443.length co60 : Value).ownBlock) (Kd.R_keptB (HO_6.out) hkp (fun k_ hk_ hs_ => (hk_.1) hs_)) (fun k_ hk_ => ⟨hk_.1.1, hk_.1.2.1, hk_.1.2.2⟩)); have n1_ := Aside0.mk (Kd.R_reok rfl hy0 (fun k_ e_ => HO_9.out.1 k_ e_)); have n2_ := Aside0.mk (Kd.R_mono (ok' := fun k_ => some k_ ≠ (v416 : Value).ownBlock ∧ some k_ ≠ (.slice Ao36 t412.length co36 : Value).ownBlock ∧ some k_ ≠ (.slice Ao60 t443.length co60 : Value).ownBlock) (Kd.R_keptB (HO_10.out) hkp (fun k_ hk_ hs_ => (hk_.2.1) hs_)) (fun k_ hk_ => ⟨hk_.1.1, hk_.1.2.1, hk_.1.2.2⟩)); have n3_ := Aside0.mk (Kd.R_mono (ok' := fun k_ => some k_ ≠ (.slice Ao56 t436.length co56 : Value).ownBlock) (Kd.R_keptB ((Kd.R_apart' HO_427001.out (Kd.R_typed HO_9.out) (by decide))) hkp (fun k_ hk_ hs_ => (hk_.2) hs_)) (fun k_ hk_ => hk_.1.1.2)); have n4_ := Aside0.mk (Kd.R_mono (ok' := fun k_ => some k_ ≠ (.slice Ao57 t439.length co57 : Value).ownBlock) (Kd.R_keptB ((Kd.R_apart' HO_427002.out (Kd.R_typed HO_9.out) (by decide))) hkp (fun k_ hk_ hs_ => (hk_.2) hs_)) (fun k_ hk_ => hk_.1.1.2)); have n5_ := Aside0.mk (blk_kept (qK BK403.out) hkp (fun hs_ => (fun e_ => (Kd.R_ne HO_9.out BK403.out (by decide)) e_) hs_)); have n6_ := Aside0.mk (blk_kept (qK BK426.out) hkp (fun hs_ => (fun e_ => (Kd.R_ne HO_9.out BK426.out (by decide)) e_) hs_)); have n7_ := Aside0.mk (Kd.R_mono (ok' := fun k_ => some k_ ≠ (.slice Ao32 t420.length co32 : Value).ownBlock) (Kd.R_keptB ((Kd.R_apart' HO438.out (Kd.R_typed HO_9.out) (by decide))) hkp (fun k_ hk_ hs_ => (hk_.2) hs_)) (fun k_ hk_ => hk_.1.1)); have n8_ := Aside0.mk (Kd.R_mono (ok' := fun k_ => some k_ ≠ (.slice Ao33 t423.length co33 : Value).ownBlock) (Kd.R_keptB ((Kd.R_apart' HO441.out (Kd.R_typed HO_9.out) (by decide))) hkp (fun k_ hk_ hs_ => (hk_.2) hs_)) (fun k_ hk_ => hk_.1.1)); have n9_ := Aside0.mk (Kd.R_mono (ok' := fun k_ => some k_ ≠ (v416 : Value).ownBlock ∧ some k_ ≠ (.slice Ao36 t412.length co36 : Value).ownBlock ∧ some k_ ≠ (v431 : Value).ownBlock) (Kd.R_keptB (HO445.out) hkp (fun k_ hk_ hs_ => (hk_.2.1) hs_)) (fun k_ hk_ => ⟨hk_.1.1, hk_.1.2.1, hk_.1.2.2⟩)); have n10_ := Aside0.mk (hb); clear HO_6; clear HO_9; clear HO_10; clear HO_427001; clear HO_427002; clear BK403; clear BK426; clear HO438; clear HO441; clear HO445; clear HB; have HO_6 := n0_; have HO_9 := n1_; have HO_10 := n2_; have HO_427001 := n3_; have HO_427002 := n4_; have BK403 := n5_; have BK426 := n6_; have HO438 := n7_; have HO441 := n8_; have HO445 := n9_; have HB := n10_; clear n0_ n1_ n2_ n3_ n4_ n5_ n6_ n7_ n8_ n9_ n10_; (try clear hb); (try clear hkp); (try clear hy0)))
                (try simp only [Act.put, List.setIfInBounds_toArray, List.set_cons_zero, List.set_cons_succ])
                go_cut [80] (fun v80 wc => ∃ (kq : Nat) (x80_52 : Bool), v80 = .bool x80_52 ∧ Aside0 (laws_FnExactRunCircuit.j1 kq l1 t415 t418 t430 x80_52 a0_0 l0_1 l0_2 = some r) ∧ Aside0 (kq ≤ kj15) ∧ Aside0 (Kd.R Kd.bool 4 wc w.heap.size (fun k_ => some k_ ≠ (v431 : Value).ownBlock) v416 t415) ∧ Aside0 (Kd.R Kd.bool 4 wc w.heap.size (fun k_ => some k_ ≠ (v416 : Value).ownBlock) v431 t430) ∧ Aside0 (Kd.R k59 59 wc w.heap.size (fun _ => True) (.slice Ao32 t420.length co32) t448) ∧ Aside0 (Kd.R (Kd.int .i64) 3 wc w.heap.size (fun _ => True) (.slice Ao33 t423.length co33) t449) ∧ Aside0 (wc.heap[gb403]? = some (.cells #[.int .i64 a0_0, (.slice A0_1 l0_1.length c0_1), (.slice A0_2 l0_2.length c0_2)] 25 (0, 0))) ∧ Aside0 (wc.heap[gb426]? = some (.cells #[.int .i64 t419, (.slice Ao32 t420.length co32), (.slice Ao33 t423.length co33)] 30 (0, 0))) ∧ Aside0 (Below w.heap.size w wc))
                case first =>
                  have H := HC53.out
                  clear HC53
                  by_cases c65 : t450 < 0
                  · rw [if_pos c65] at H
                    have c65b0 : decide (t450 < 0) = true := decide_eq_true c65
                    clear c65
                    (first | rw [c65b0] | (simp only [i64_w, i32_w]; rw [c65b0]) | skip)
                    have H' := Aside0.mk H
                    clear H
                    go_wp2
                    go_meet
                    case rel => exact ⟨_, (true), qS, H', ⟨by have := HJ15.out; first | omega | exact Nat.le_refl _⟩, ⟨by (with_reducible repeat (first | apply Kd.R_alloc | apply Kd.R_drewN | apply Kd.R_drew)); exact Kd.R_mono HO_6.out (fun _ hk => hk.2.1)⟩, ⟨by (with_reducible repeat (first | apply Kd.R_alloc | apply Kd.R_drewN | apply Kd.R_drew)); exact Kd.R_mono HO_10.out (fun _ hk => hk.1)⟩, ⟨by (with_reducible repeat (first | apply Kd.R_alloc | apply Kd.R_drewN | apply Kd.R_drew)); exact Kd.R_mono HO_427001.out (fun _ hk => trivial)⟩, ⟨by (with_reducible repeat (first | apply Kd.R_alloc | apply Kd.R_drewN | apply Kd.R_drew)); exact Kd.R_mono HO_427002.out (fun _ hk => trivial)⟩, ⟨by (with_reducible repeat (first | refine blk_drewN ?_ _ | refine blk_drew ?_ | refine blk_alloc ?_ _)); exact BK403.out⟩, ⟨by (with_reducible repeat (first | refine blk_drewN ?_ _ | refine blk_drew ?_ | refine blk_alloc ?_ _)); exact BK426.out⟩, ⟨qB⟩⟩
                  · rw [if_neg c65] at H
                    have c65b0 : decide (t450 < 0) = false := decide_eq_false c65
                    clear c65
                    (first | rw [c65b0] | (simp only [i64_w, i32_w]; rw [c65b0]) | skip)
                    replace H := Option.bind_eq_some_iff.mp H
                    obtain ⟨t452, A660, H⟩ := H
                    replace H : (if t452 = true then (laws_FnExactRunCircuit.j1 kj15 l1 t415 t418 t430 (t433 != t418) a0_0 l0_1 l0_2) else (laws_FnExactRunCircuit.j1 kj15 l1 t415 t418 t430 true a0_0 l0_1 l0_2)) = some r := H
                    have A66 := Aside0.mk A660
                    clear A660
                    by_cases c67 : t452 = true
                    · subst c67
                      have H1 : (laws_FnExactRunCircuit.j1 kj15 l1 t415 t418 t430 (t433 != t418) a0_0 l0_1 l0_2) = some r := by rw [if_pos rfl] at H; exact H
                      clear H
                      have H := H1
                      clear H1
                      have H' := Aside0.mk H
                      clear H
                      obtain ⟨Ao68, co68, eo68⟩ := Kd.R_slice HO_10.out
                      subst eo68
                      obtain ⟨Ao69, co69, eo69⟩ := Kd.R_slice HO_6.out
                      subst eo69
                      go_wp2_with (first | (go_at_call 19; (with_reducible refine (laws_eqBoolS.calls kj15 _ _ t430 _ _ t415 true _ ?side1 ?side2 ?side3 ?side4 A66.out).mono ?_); (case side1 => repeat (first | exact (Kd.R_reads' HO_10.out).2.2 | (with_reducible refine Kd.C_alloc ?_ _) | (with_reducible refine Kd.C_drewN ?_ _) | (with_reducible refine Kd.C_drew ?_))); (case side2 => exact (Kd.R_reads' HO_10.out).2.1); (case side3 => repeat (first | exact (Kd.R_reads' HO_6.out).2.2 | (with_reducible refine Kd.C_alloc ?_ _) | (with_reducible refine Kd.C_drewN ?_ _) | (with_reducible refine Kd.C_drew ?_))); (case side4 => exact (Kd.R_reads' HO_6.out).2.1); rintro e w' ⟨rfl, ⟨nd, rfl⟩⟩))
                      go_meet
                      case rel => exact ⟨_, ((t433 != t418)), qS, H', ⟨by have := HJ15.out; first | omega | exact Nat.le_refl _⟩, ⟨by (with_reducible repeat (first | apply Kd.R_alloc | apply Kd.R_drewN | apply Kd.R_drew)); exact Kd.R_mono HO_6.out (fun _ hk => hk.2.1)⟩, ⟨by (with_reducible repeat (first | apply Kd.R_alloc | apply Kd.R_drewN | apply Kd.R_drew)); exact Kd.R_mono HO_10.out (fun _ hk => hk.1)⟩, ⟨by (with_reducible repeat (first | apply Kd.R_alloc | apply Kd.R_drewN | apply Kd.R_drew)); exact Kd.R_mono HO_427001.out (fun _ hk => trivial)⟩, ⟨by (with_reducible repeat (first | apply Kd.R_alloc | apply Kd.R_drewN | apply Kd.R_drew)); exact Kd.R_mono HO_427002.out (fun _ hk => trivial)⟩, ⟨by (with_reducible repeat (first | refine blk_drewN ?_ _ | refine blk_drew ?_ | refine blk_alloc ?_ _)); exact BK403.out⟩, ⟨by (with_reducible repeat (first | refine blk_drewN ?_ _ | refine blk_drew ?_ | refine blk_alloc ?_ _)); exact BK426.out⟩, ⟨qB⟩⟩
                    · replace c67 := Bool.eq_false_iff.mpr c67
                      subst c67
                      have H1 : (laws_FnExactRunCircuit.j1 kj15 l1 t415 t418 t430 true a0_0 l0_1 l0_2) = some r := by rw [if_neg (show ¬ (false = true) by decide)] at H; exact H
                      clear H
                      have H := H1
                      clear H1
                      have H' := Aside0.mk H
                      clear H
                      obtain ⟨Ao70, co70, eo70⟩ := Kd.R_slice HO_10.out
                      subst eo70
                      obtain ⟨Ao71, co71, eo71⟩ := Kd.R_slice HO_6.out
                      subst eo71
                      go_wp2_with (first | (go_at_call 19; (with_reducible refine (laws_eqBoolS.calls kj15 _ _ t430 _ _ t415 false _ ?side1 ?side2 ?side3 ?side4 A66.out).mono ?_); (case side1 => repeat (first | exact (Kd.R_reads' HO_10.out).2.2 | (with_reducible refine Kd.C_alloc ?_ _) | (with_reducible refine Kd.C_drewN ?_ _) | (with_reducible refine Kd.C_drew ?_))); (case side2 => exact (Kd.R_reads' HO_10.out).2.1); (case side3 => repeat (first | exact (Kd.R_reads' HO_6.out).2.2 | (with_reducible refine Kd.C_alloc ?_ _) | (with_reducible refine Kd.C_drewN ?_ _) | (with_reducible refine Kd.C_drew ?_))); (case side4 => exact (Kd.R_reads' HO_6.out).2.1); rintro e w' ⟨rfl, ⟨nd, rfl⟩⟩))
                      go_meet
                      case rel => exact ⟨_, (true), qS, H', ⟨by have := HJ15.out; first | omega | exact Nat.le_refl _⟩, ⟨by (with_reducible repeat (first | apply Kd.R_alloc | apply Kd.R_drewN | apply Kd.R_drew)); exact Kd.R_mono HO_6.out (fun _ hk => hk.2.1)⟩, ⟨by (with_reducible repeat (first | apply Kd.R_alloc | apply Kd.R_drewN | apply Kd.R_drew)); exact Kd.R_mono HO_10.out (fun _ hk => hk.1)⟩, ⟨by (with_reducible repeat (first | apply Kd.R_alloc | apply Kd.R_drewN | apply Kd.R_drew)); exact Kd.R_mono HO_427001.out (fun _ hk => trivial)⟩, ⟨by (with_reducible repeat (first | apply Kd.R_alloc | apply Kd.R_drewN | apply Kd.R_drew)); exact Kd.R_mono HO_427002.out (fun _ hk => trivial)⟩, ⟨by (with_reducible repeat (first | refine blk_drewN ?_ _ | refine blk_drew ?_ | refine blk_alloc ?_ _)); exact BK403.out⟩, ⟨by (with_reducible repeat (first | refine blk_drewN ?_ _ | refine blk_drew ?_ | refine blk_alloc ?_ _)); exact BK426.out⟩, ⟨qB⟩⟩
                case rest =>
                  clear HC53
                  try clear c1
                  try clear c2
                  try clear p2
                  try clear c3
                  try clear c3b0
                  try clear c3b1
                  try clear c4
                  try clear c5
                  try clear c6
                  try clear c6b0
                  try clear c11
                  try clear c13
                  try clear c15
                  try clear c17
                  try clear c19
                  try clear c20
                  try clear c21
                  try clear c23
                  try clear c24
                  try clear c30
                  try clear c39
                  try clear c44
                  try clear c47
                  try clear c50
                  try clear c61
                  try clear c65
                  try clear c65b0
                  try clear c67
                  try clear hcz18_0
                  try clear hcz18_1
                  try clear hcz18_2
                  try clear hcz20_0
                  try clear hcz20_1
                  try clear hcz20_2
                  try clear hcz27_0
                  try clear hcz27_1
                  try clear hcz27_2
                  try clear hcz31_0
                  try clear hcz31_1
                  try clear hcz31_2
                  try clear hcz35_0
                  try clear hcz35_1
                  try clear hcz35_2
                  try clear hcz62_0
                  try clear hcz62_1
                  try clear hcz62_2
                  try clear hcz8_0
                  try clear hcz8_1
                  try clear hcz8_2
                  try clear hfz18_0
                  try clear hfz18_1
                  try clear hfz18_2
                  try clear hfz20_0
                  try clear hfz20_1
                  try clear hfz20_2
                  try clear hfz27_0
                  try clear hfz27_1
                  try clear hfz27_2
                  try clear hfz31_0
                  try clear hfz31_1
                  try clear hfz31_2
                  try clear hfz35_0
                  try clear hfz35_1
                  try clear hfz35_2
                  try clear hfz62_0
                  try clear hfz62_1
                  try clear hfz62_2
                  try clear hfz8_0
                  try clear hfz8_1
                  try clear hfz8_2
                  try clear p2
                  obtain ⟨kq, x80_52, rfl, HA, HJ52, HO_6, HO_10, HO_427001, HO_427002, BK403, BK426, HB⟩ := hcut
                  have hl427001_52 := (Kd.R_reads' HO_427001.out).1
                  rw [hl427001_52] at HO_427001
                  (try simp only [hl427001_52])
                  (try simp only [hl427001_52] at BK403)
                  (try simp only [hl427001_52] at BK426)
                  (try simp only [hl427001_52] at HO_6)
                  (try simp only [hl427001_52] at HO_10)
                  (try simp only [hl427001_52] at HO_427002)
                  have hl427002_52 := (Kd.R_reads' HO_427002.out).1
                  rw [hl427002_52] at HO_427002
                  (try simp only [hl427002_52])
                  (try simp only [hl427002_52] at BK403)
                  (try simp only [hl427002_52] at BK426)
                  (try simp only [hl427002_52] at HO_6)
                  (try simp only [hl427002_52] at HO_10)
                  (try simp only [hl427002_52] at HO_427001)
                  cases kq with
                  | zero => exact absurd HA.out (by simp [laws_FnExactRunCircuit.j1])
                  | succ kj52 =>
                    have H := HA.out
                    clear HA
                    simp only [laws_FnExactRunCircuit.j1] at H
                    by_cases c72 : x80_52 = true
                    · subst c72
                      have H1 : (some false) = some r := by rw [if_pos rfl] at H; exact H
                      clear H
                      have H := H1
                      clear H1
                      obtain rfl := Option.some.inj H
                      go_wp2
                      go_ret
                      exact ⟨qE, qB⟩
                    · replace c72 := Bool.eq_false_iff.mpr c72
                      subst c72
                      have H1 : ((laws_markBoolS.f kj52 t430 1).bind fun bt453 => ((laws_heldBoolS.f kj52 bt453.2 1).bind fun t455 => (if t455 < 0 then (some false) else (if t455 = bt453.1 then ((laws_toCircuit.f kj52 a0_0 l0_1 l0_2).bind fun bt456 => ((laws_toBoolS.f kj52 l1).bind fun t463 => ((impl_RunCircuit.f kj52 bt456.1 bt456.2.1 bt456.2.2 t463).bind fun bt466 => ((laws_eqBoolS.f kj52 bt466.1 t415).bind fun t470 => (if t470 = true then (laws_FnExactRunCircuit.j2 kj52 bt453.2 bt453.1 (bt466.2 != t418)) else (laws_FnExactRunCircuit.j2 kj52 bt453.2 bt453.1 true)))))) else (some false))))) = some r := by rw [if_neg (show ¬ (false = true) by decide)] at H; exact H
                      clear H
                      have H := H1
                      clear H1
                      replace H := Option.bind_eq_some_iff.mp H
                      obtain ⟨⟨t453, t454⟩, A730, H⟩ := H
                      replace H : ((laws_heldBoolS.f kj52 t454 1).bind fun t455 => (if t455 < 0 then (some false) else (if t455 = t453 then ((laws_toCircuit.f kj52 a0_0 l0_1 l0_2).bind fun bt456 => ((laws_toBoolS.f kj52 l1).bind fun t463 => ((impl_RunCircuit.f kj52 bt456.1 bt456.2.1 bt456.2.2 t463).bind fun bt466 => ((laws_eqBoolS.f kj52 bt466.1 t415).bind fun t470 => (if t470 = true then (laws_FnExactRunCircuit.j2 kj52 t454 t453 (bt466.2 != t418)) else (laws_FnExactRunCircuit.j2 kj52 t454 t453 true)))))) else (some false)))) = some r := H
                      have A73 := Aside0.mk A730
                      clear A730
                      replace H := Option.bind_eq_some_iff.mp H
                      obtain ⟨t455, A740, H⟩ := H
                      replace H : (if t455 < 0 then (some false) else (if t455 = t453 then ((laws_toCircuit.f kj52 a0_0 l0_1 l0_2).bind fun bt456 => ((laws_toBoolS.f kj52 l1).bind fun t463 => ((impl_RunCircuit.f kj52 bt456.1 bt456.2.1 bt456.2.2 t463).bind fun bt466 => ((laws_eqBoolS.f kj52 bt466.1 t415).bind fun t470 => (if t470 = true then (laws_FnExactRunCircuit.j2 kj52 t454 t453 (bt466.2 != t418)) else (laws_FnExactRunCircuit.j2 kj52 t454 t453 true)))))) else (some false))) = some r := H
                      have A74 := Aside0.mk A740
                      clear A740
                      by_cases c75 : t455 < 0
                      · rw [if_pos c75] at H
                        have c75b0 : decide (t455 < 0) = true := decide_eq_true c75
                        clear c75
                        obtain rfl := Option.some.inj H
                        obtain ⟨Ao76, co76, eo76⟩ := Kd.R_slice HO_10.out
                        subst eo76
                        go_wp2_with (first | ((with_reducible refine gate_callee (f := 21) rfl ?_); refine goesL_ (some 83) rfl rfl Try.func21 (by kernel_rfl) rfl #[.slice Ao76 t430.length co76, .int .i64 1] rfl qG ?_; (with_reducible refine (laws_markBoolS.calls kj52 (fun k_ => some k_ = (.slice Ao76 t430.length co76 : Value).ownBlock) (.slice Ao76 t430.length co76) t430 1 t453 t454 w _ ?side1 ?side2 A73.out).mono ?_); (case side1 => repeat (first | (with_reducible first | exact HB.out | apply below_alloc | apply pw_below_drewN | apply below_drew1 | refine below_set ?_ GE403.out | refine below_set ?_ GE426.out) | exact HB.out)); (case side2 => exact Kd.R_tight rfl HO_10.out); rintro e w77 ⟨rfl, hy0, hb, hkp⟩; refine ⟨_, rfl, ?_⟩; have n0_ := Aside0.mk (Kd.R_mono (ok' := fun k_ => some k_ ≠ (.slice Ao76 t430.length co76 : Value).ownBlock) (Kd.R_keptB (HO_6.out) hkp (fun k_ hk_ hs_ => (hk_) hs_)) (fun k_ hk_ => hk_.1)); have n1_ := Aside0.mk (Kd.R_reok rfl hy0 (fun k_ e_ => HO_10.out.1 k_ e_)); have n2_ := Aside0.mk (Kd.R_mono (ok' := fun k_ => True) (Kd.R_keptB ((Kd.R_apart' HO_427001.out (Kd.R_typed HO_10.out) (by decide))) hkp (fun k_ hk_ hs_ => (hk_.2) hs_)) (fun k_ hk_ => trivial)); have n3_ := Aside0.mk (Kd.R_mono (ok' := fun k_ => True) (Kd.R_keptB ((Kd.R_apart' HO_427002.out (Kd.R_typed HO_10.out) (by decide))) hkp (fun k_ hk_ hs_ => (hk_.2) hs_)) (fun k_ hk_ => trivial)); have n4_ := Aside0.mk (blk_kept (qK BK403.out) hkp (fun hs_ => (fun e_ => (Kd.R_ne HO_10.out BK403.out (by decide)) e_) hs_)); have n5_ := Aside0.mk (blk_kept (qK BK426.out) hkp (fun hs_ => (fun e_ => (Kd.R_ne HO_10.out BK426.out (by decide)) e_) hs_)); have n6_ := Aside0.mk (hb); clear HO_6; clear HO_10; clear HO_427001; clear HO_427002; clear BK403; clear BK426; clear HB; have HO_6 := n0_; have HO_10 := n1_; have HO_427001 := n2_; have HO_427002 := n3_; have BK403 := n4_; have BK426 := n5_; have HB := n6_; clear n0_ n1_ n2_ n3_ n4_ n5_ n6_; (try clear hb); (try clear hkp); (try clear hy0)) | ((with_reducible refine gate_callee (f := 22) rfl ?_); refine goesL_ (some 86) rfl rfl Try.func22 (by kernel_rfl) rfl #[.slice Ao76 t454.length co76, .int .i64 1] rfl (by (try simp only [List.map_toArray, List.map_cons, List.map_nil]); first | done | (rw [show t454.length = t430.length from (Kd.R_reads' HO_10.out).1.symm] <;> rfl) | rfl | (simp only [List.length_drop, List.length_take]; rfl)) ?_; (with_reducible refine (laws_heldBoolS.calls kj52 _ _ t454 1 t455 _ ?side1 ?side2 A74.out).mono ?_); (case side1 => repeat (first | exact (Kd.R_reads' HO_10.out).2.2 | (with_reducible refine Kd.C_alloc ?_ _) | (with_reducible refine Kd.C_drewN ?_ _) | (with_reducible refine Kd.C_drew ?_))); (case side2 => rw [show t454.length = t430.length from (Kd.R_reads' HO_10.out).1.symm]; exact (Kd.R_reads' HO_10.out).2.1); rintro e w' ⟨rfl, ⟨nd, rfl⟩⟩; refine ⟨_, rfl, ?_⟩))
                        go_ret
                        exact ⟨qE, qB⟩
                      · rw [if_neg c75] at H
                        have c75b0 : decide (t455 < 0) = false := decide_eq_false c75
                        clear c75
                        by_cases c78 : t455 = t453
                        · rw [if_pos c78] at H
                          have c78b0 : (t455 == t453) = true := beq_iff_eq.mpr c78
                          have c78b1 : (t455 != t453) = false := bne_eq_false_iff_eq.mpr c78
                          clear c78
                          replace H := Option.bind_eq_some_iff.mp H
                          obtain ⟨⟨t456, t457, t460⟩, A790, H⟩ := H
                          replace H : ((laws_toBoolS.f kj52 l1).bind fun t463 => ((impl_RunCircuit.f kj52 t456 t457 t460 t463).bind fun bt466 => ((laws_eqBoolS.f kj52 bt466.1 t415).bind fun t470 => (if t470 = true then (laws_FnExactRunCircuit.j2 kj52 t454 t453 (bt466.2 != t418)) else (laws_FnExactRunCircuit.j2 kj52 t454 t453 true))))) = some r := H
                          have A79 := Aside0.mk A790
                          clear A790
                          replace H := Option.bind_eq_some_iff.mp H
                          obtain ⟨t463, A800, H⟩ := H
                          replace H : ((impl_RunCircuit.f kj52 t456 t457 t460 t463).bind fun bt466 => ((laws_eqBoolS.f kj52 bt466.1 t415).bind fun t470 => (if t470 = true then (laws_FnExactRunCircuit.j2 kj52 t454 t453 (bt466.2 != t418)) else (laws_FnExactRunCircuit.j2 kj52 t454 t453 true)))) = some r := H
                          have A80 := Aside0.mk A800
                          clear A800
                          replace H := Option.bind_eq_some_iff.mp H
                          obtain ⟨⟨t466, t469⟩, A810, H⟩ := H
                          replace H : ((laws_eqBoolS.f kj52 t466 t415).bind fun t470 => (if t470 = true then (laws_FnExactRunCircuit.j2 kj52 t454 t453 (t469 != t418)) else (laws_FnExactRunCircuit.j2 kj52 t454 t453 true))) = some r := H
                          have A81 := Aside0.mk A810
                          clear A810
                          have HC82 := Aside0.mk H
                          clear H
                          obtain ⟨Ao83, co83, eo83⟩ := Kd.R_slice HO_10.out
                          subst eo83
                          go_upto_region 31 with (first | ((with_reducible refine gate_callee (f := 21) rfl ?_); refine goesL_ (some 83) rfl rfl Try.func21 (by kernel_rfl) rfl #[.slice Ao83 t430.length co83, .int .i64 1] rfl qG ?_; (with_reducible refine (laws_markBoolS.calls kj52 (fun k_ => some k_ = (.slice Ao83 t430.length co83 : Value).ownBlock) (.slice Ao83 t430.length co83) t430 1 t453 t454 w _ ?side1 ?side2 A73.out).mono ?_); (case side1 => repeat (first | (with_reducible first | exact HB.out | apply below_alloc | apply pw_below_drewN | apply below_drew1 | refine below_set ?_ GE403.out | refine below_set ?_ GE426.out) | exact HB.out)); (case side2 => exact Kd.R_tight rfl HO_10.out); rintro e w84 ⟨rfl, hy0, hb, hkp⟩; refine ⟨_, rfl, ?_⟩; have n0_ := Aside0.mk (Kd.R_mono (ok' := fun k_ => some k_ ≠ (.slice Ao83 t430.length co83 : Value).ownBlock) (Kd.R_keptB (HO_6.out) hkp (fun k_ hk_ hs_ => (hk_) hs_)) (fun k_ hk_ => hk_.1)); have n1_ := Aside0.mk (Kd.R_reok rfl hy0 (fun k_ e_ => HO_10.out.1 k_ e_)); have n2_ := Aside0.mk (Kd.R_mono (ok' := fun k_ => True) (Kd.R_keptB ((Kd.R_apart' HO_427001.out (Kd.R_typed HO_10.out) (by decide))) hkp (fun k_ hk_ hs_ => (hk_.2) hs_)) (fun k_ hk_ => trivial)); have n3_ := Aside0.mk (Kd.R_mono (ok' := fun k_ => True) (Kd.R_keptB ((Kd.R_apart' HO_427002.out (Kd.R_typed HO_10.out) (by decide))) hkp (fun k_ hk_ hs_ => (hk_.2) hs_)) (fun k_ hk_ => trivial)); have n4_ := Aside0.mk (blk_kept (qK BK403.out) hkp (fun hs_ => (fun e_ => (Kd.R_ne HO_10.out BK403.out (by decide)) e_) hs_)); have n5_ := Aside0.mk (blk_kept (qK BK426.out) hkp (fun hs_ => (fun e_ => (Kd.R_ne HO_10.out BK426.out (by decide)) e_) hs_)); have n6_ := Aside0.mk (hb); clear HO_6; clear HO_10; clear HO_427001; clear HO_427002; clear BK403; clear BK426; clear HB; have HO_6 := n0_; have HO_10 := n1_; have HO_427001 := n2_; have HO_427002 := n3_; have BK403 := n4_; have BK426 := n5_; have HB := n6_; clear n0_ n1_ n2_ n3_ n4_ n5_ n6_; (try clear hb); (try clear hkp); (try clear hy0)) | ((with_reducible refine gate_callee (f := 22) rfl ?_); refine goesL_ (some 86) rfl rfl Try.func22 (by kernel_rfl) rfl #[.slice Ao83 t454.length co83, .int .i64 1] rfl (by (try simp only [List.map_toArray, List.map_cons, List.map_nil]); first | done | (rw [show t454.length = t430.length from (Kd.R_reads' HO_10.out).1.symm] <;> rfl) | rfl | (simp only [List.length_drop, List.length_take]; rfl)) ?_; (with_reducible refine (laws_heldBoolS.calls kj52 _ _ t454 1 t455 _ ?side1 ?side2 A74.out).mono ?_); (case side1 => repeat (first | exact (Kd.R_reads' HO_10.out).2.2 | (with_reducible refine Kd.C_alloc ?_ _) | (with_reducible refine Kd.C_drewN ?_ _) | (with_reducible refine Kd.C_drew ?_))); (case side2 => rw [show t454.length = t430.length from (Kd.R_reads' HO_10.out).1.symm]; exact (Kd.R_reads' HO_10.out).2.1); rintro e w' ⟨rfl, ⟨nd, rfl⟩⟩; refine ⟨_, rfl, ?_⟩; have hnb85 := NB403_426.out; have hnc85 := NB426_403.out; have hcz86_0 : w84.cell? ⟨gb403, 0, none⟩ = some (.int .i64 a0_0) := (blk_cell BK403.out 0).trans rfl; have hcz86_1 : w84.cell? ⟨gb403, 1, none⟩ = some (.slice A0_1 l0_1.length c0_1) := (blk_cell BK403.out 1).trans rfl; have hcz86_2 : w84.cell? ⟨gb403, 2, none⟩ = some (.slice A0_2 l0_2.length c0_2) := (blk_cell BK403.out 2).trans rfl; have hfz86_0 := blk_frozen BK403.out 0; have hfz86_1 := blk_frozen BK403.out 1; have hfz86_2 := blk_frozen BK403.out 2) | ((with_reducible refine gate_callee (f := 13) rfl ?_); refine goesL_ (some 94) rfl rfl Try.func13 (by kernel_rfl) rfl #[.agg #[.int .i64 a0_0, .slice A0_1 l0_1.length c0_1, .slice A0_2 l0_2.length c0_2]] rfl qG ?_; (with_reducible refine (laws_toCircuit.calls kj52 a0_0 _ _ l0_1 _ _ l0_2 t456 t457 t460 _ ?side1 ?side2 ?side3 ?side4 A79.out).mono ?_); (case side1 => repeat (first | exact (Kd.C_below HR0_1.out (qB)) | (with_reducible refine Kd.C_alloc ?_ _) | (with_reducible refine Kd.C_drewN ?_ _) | (with_reducible refine Kd.C_drew ?_))); (case side2 => exact HC0_1.out); (case side3 => repeat (first | exact (Kd.C_below HR0_2.out (qB)) | (with_reducible refine Kd.C_alloc ?_ _) | (with_reducible refine Kd.C_drewN ?_ _) | (with_reducible refine Kd.C_drew ?_))); (case side4 => exact HC0_2.out); rintro e w87 ⟨v458, v461, rfl, ho0, ho1, hb⟩; refine ⟨_, rfl, ?_⟩; have n0_ := Aside0.mk (Kd.R_below (qR HO_6.out) hb); have n1_ := Aside0.mk (Kd.R_below (qR HO_10.out) hb); have n2_ := Aside0.mk (Kd.R_elder' (qR HO_427001.out) (Kd.R_base ho0) hb); have n3_ := Aside0.mk (Kd.R_elder' (qR HO_427002.out) (Kd.R_base ho1) hb); have n4_ := Aside0.mk (Kd.R_lower (Kd.R_new' ho0 (Kd.R_lt (qR HO_427001.out))) (below_size (qB))); have n5_ := Aside0.mk (Kd.R_lower (Kd.R_new' ho1 (Kd.R_lt (qR HO_427002.out))) (below_size (qB))); have n6_ := Aside0.mk (blk_below (g := gb403) (o := .cells #[.int .i64 a0_0, .slice A0_1 l0_1.length c0_1, .slice A0_2 l0_2.length c0_2] 25 (0, 0)) (qK BK403.out) hb); have n7_ := Aside0.mk (blk_below (g := gb426) (o := .cells #[.int .i64 t419, .slice Ao32 t448.length co32, .slice Ao33 t449.length co33] 30 (0, 0)) (qK BK426.out) hb); have n8_ := Aside0.mk (below_step (qB) hb); clear HO_6; clear HO_10; clear HO_427001; clear HO_427002; clear BK403; clear BK426; clear HB; have HO_6 := n0_; have HO_10 := n1_; have HO_427001 := n2_; have HO_427002 := n3_; have HO459 := n4_; have HO462 := n5_; have BK403 := n6_; have BK426 := n7_; have HB := n8_; clear n0_ n1_ n2_ n3_ n4_ n5_ n6_ n7_ n8_; (try clear hb); (try clear hb2); (try clear hk); (try clear hi); (try clear ho0); (try clear ho1)) | ((with_reducible refine gate_callee (f := 17) rfl ?_); refine goesL_ (some 96) rfl rfl Try.func17 (by kernel_rfl) rfl #[.slice A1 l1.length c1] rfl qG ?_; (with_reducible refine (laws_toBoolS.calls kj52 _ _ l1 t463 _ ?side1 ?side2 A80.out).mono ?_); (case side1 => exact qC (Kd.C_below HR1.out HB.out)); (case side2 => exact HC1.out); rintro e w88 ⟨v464, rfl, ho0, hb⟩; refine ⟨_, rfl, ?_⟩; have n0_ := Aside0.mk (Kd.R_elder' (qR HO_6.out) (Kd.R_base ho0) hb); have n1_ := Aside0.mk (Kd.R_elder' (qR HO_10.out) (Kd.R_base ho0) hb); have n2_ := Aside0.mk (Kd.R_below (qR HO_427001.out) hb); have n3_ := Aside0.mk (Kd.R_below (qR HO_427002.out) hb); have n4_ := Aside0.mk (Kd.R_below (qR HO459.out) hb); have n5_ := Aside0.mk (Kd.R_below (qR HO462.out) hb); have n6_ := Aside0.mk (Kd.R_lower (Kd.R_new' (Kd.R_new' ho0 (Kd.R_lt (qR HO_6.out))) (Kd.R_lt (qR HO_10.out))) (below_size (qB))); have n7_ := Aside0.mk (blk_below (g := gb403) (o := .cells #[.int .i64 a0_0, .slice A0_1 l0_1.length c0_1, .slice A0_2 l0_2.length c0_2] 25 (0, 0)) (qK BK403.out) hb); have n8_ := Aside0.mk (blk_below (g := gb426) (o := .cells #[.int .i64 t419, .slice Ao32 t448.length co32, .slice Ao33 t449.length co33] 30 (0, 0)) (qK BK426.out) hb); have n9_ := Aside0.mk (below_step (qB) hb); clear HO_6; clear HO_10; clear HO_427001; clear HO_427002; clear HO459; clear HO462; clear BK403; clear BK426; clear HB; have HO_6 := n0_; have HO_10 := n1_; have HO_427001 := n2_; have HO_427002 := n3_; have HO459 := n4_; have HO462 := n5_; have HO465 := n6_; have BK403 := n7_; have BK426 := n8_; have HB := n9_; clear n0_ n1_ n2_ n3_ n4_ n5_ n6_ n7_ n8_ n9_; (try clear hb); (try clear hb2); (try clear hk); (try clear hi); (try clear ho0); obtain ⟨Ao89, co89, eo89⟩ := Kd.R_slice HO459.out; subst eo89; obtain ⟨Ao90, co90, eo90⟩ := Kd.R_slice HO462.out; subst eo90; obtain ⟨Ao91, co91, eo91⟩ := Kd.R_slice HO465.out; subst eo91) | ((with_reducible refine gate_callee (f := 24) rfl ?_); refine goesL_ (some 97) rfl rfl Try.func24 (by kernel_rfl) rfl #[.agg #[.int .i64 t456, .slice Ao89 t457.length co89, .slice Ao90 t460.length co90], .slice Ao91 t463.length co91] rfl qG ?_; (with_reducible refine (impl_RunCircuit.calls kj52 t456 _ _ t457 _ _ t460 _ _ t463 t466 t469 _ ?side1 ?side2 ?side3 ?side4 ?side5 ?side6 A81.out).mono ?_); (case side1 => repeat (first | exact (Kd.R_reads' HO459.out).2.2 | (with_reducible refine Kd.C_alloc ?_ _) | (with_reducible refine Kd.C_drewN ?_ _) | (with_reducible refine Kd.C_drew ?_))); (case side2 => exact (Kd.R_reads' HO459.out).2.1); (case side3 => repeat (first | exact (Kd.R_reads' HO462.out).2.2 | (with_reducible refine Kd.C_alloc ?_ _) | (with_reducible refine Kd.C_drewN ?_ _) | (with_reducible refine Kd.C_drew ?_))); (case side4 => exact (Kd.R_reads' HO462.out).2.1); (case side5 => repeat (first | exact (Kd.R_reads' HO465.out).2.2 | (with_reducible refine Kd.C_alloc ?_ _) | (with_reducible refine Kd.C_drewN ?_ _) | (with_reducible refine Kd.C_drew ?_))); (case side6 => exact (Kd.R_reads' HO465.out).2.1); rintro e w92 ⟨v467, rfl, ho0, hb⟩; refine ⟨_, rfl, ?_⟩; have n0_ := Aside0.mk (Kd.R_elder' (qR HO_6.out) (Kd.R_base ho0) hb); have n1_ := Aside0.mk (Kd.R_elder' (qR HO_10.out) (Kd.R_base ho0) hb); have n2_ := Aside0.mk (Kd.R_below (qR HO_427001.out) hb); have n3_ := Aside0.mk (Kd.R_below (qR HO_427002.out) hb); have n4_ := Aside0.mk (Kd.R_below (qR HO459.out) hb); have n5_ := Aside0.mk (Kd.R_below (qR HO462.out) hb); have n6_ := Aside0.mk (Kd.R_elder' (qR HO465.out) (Kd.R_base ho0) hb); have n7_ := Aside0.mk (Kd.R_lower (Kd.R_new' (Kd.R_new' (Kd.R_new' ho0 (Kd.R_lt (qR HO_6.out))) (Kd.R_lt (qR HO_10.out))) (Kd.R_lt (qR HO465.out))) (below_size (qB))); have n8_ := Aside0.mk (blk_below (g := gb403) (o := .cells #[.int .i64 a0_0, .slice A0_1 l0_1.length c0_1, .slice A0_2 l0_2.length c0_2] 25 (0, 0)) (qK BK403.out) hb); have n9_ := Aside0.mk (blk_below (g := gb426) (o := .cells #[.int .i64 t419, .slice Ao32 t448.length co32, .slice Ao33 t449.length co33] 30 (0, 0)) (qK BK426.out) hb); have n10_ := Aside0.mk (below_step (qB) hb); clear HO_6; clear HO_10; clear HO_427001; clear HO_427002; clear HO459; clear HO462; clear HO465; clear BK403; clear BK426; clear HB; have HO_6 := n0_; have HO_10 := n1_; have HO_427001 := n2_; have HO_427002 := n3_; have HO459 := n4_; have HO462 := n5_; have HO465 := n6_; have HO468 := n7_; have BK403 := n8_; have BK426 := n9_; have HB := n10_; clear n0_ n1_ n2_ n3_ n4_ n5_ n6_ n7_ n8_ n9_ n10_; (try clear hb); (try clear hb2); (try clear hk); (try clear hi); (try clear ho0)))
                          (try simp only [Act.put, List.setIfInBounds_toArray, List.set_cons_zero, List.set_cons_succ])
                          go_cut [108] (fun v108 wc => ∃ (kq : Nat) (x108_81 : Bool), v108 = .bool x108_81 ∧ Aside0 (laws_FnExactRunCircuit.j2 kq t454 t453 x108_81 = some r) ∧ Aside0 (kq ≤ kj52) ∧ Aside0 (Kd.R Kd.bool 4 wc w.heap.size (fun _ => True) (.slice Ao83 t430.length co83) t454) ∧ Aside0 (Kd.R k59 59 wc w.heap.size (fun _ => True) (.slice Ao32 t448.length co32) t448) ∧ Aside0 (Kd.R (Kd.int .i64) 3 wc w.heap.size (fun _ => True) (.slice Ao33 t449.length co33) t449) ∧ Aside0 (wc.heap[gb403]? = some (.cells #[.int .i64 a0_0, (.slice A0_1 l0_1.length c0_1), (.slice A0_2 l0_2.length c0_2)] 25 (0, 0))) ∧ Aside0 (wc.heap[gb426]? = some (.cells #[.int .i64 t419, (.slice Ao32 t448.length co32), (.slice Ao33 t449.length co33)] 30 (0, 0))) ∧ Aside0 (Below w.heap.size w wc))
                          case first =>
                            have H := HC82.out
                            clear HC82
                            replace H := Option.bind_eq_some_iff.mp H
                            obtain ⟨t470, A930, H⟩ := H
                            replace H : (if t470 = true then (laws_FnExactRunCircuit.j2 kj52 t454 t453 (t469 != t418)) else (laws_FnExactRunCircuit.j2 kj52 t454 t453 true)) = some r := H
                            have A93 := Aside0.mk A930
                            clear A930
                            by_cases c94 : t470 = true
                            · subst c94
                              have H1 : (laws_FnExactRunCircuit.j2 kj52 t454 t453 (t469 != t418)) = some r := by rw [if_pos rfl] at H; exact H
                              clear H
                              have H := H1
                              clear H1
                              have H' := Aside0.mk H
                              clear H
                              obtain ⟨Ao95, co95, eo95⟩ := Kd.R_slice HO468.out
                              subst eo95
                              obtain ⟨Ao96, co96, eo96⟩ := Kd.R_slice HO_6.out
                              subst eo96
                              go_wp2_with (first | ((with_reducible refine gate_callee (f := 19) rfl ?_); refine goesL_ (some 102) rfl rfl Try.func19 (by kernel_rfl) rfl #[.slice Ao95 t466.length co95, .slice Ao96 t415.length co96] rfl qG ?_; (with_reducible refine (laws_eqBoolS.calls kj52 _ _ t466 _ _ t415 true _ ?side1 ?side2 ?side3 ?side4 A93.out).mono ?_); (case side1 => repeat (first | exact (Kd.R_reads' HO468.out).2.2 | (with_reducible refine Kd.C_alloc ?_ _) | (with_reducible refine Kd.C_drewN ?_ _) | (with_reducible refine Kd.C_drew ?_))); (case side2 => exact (Kd.R_reads' HO468.out).2.1); (case side3 => repeat (first | exact (Kd.R_reads' HO_6.out).2.2 | (with_reducible refine Kd.C_alloc ?_ _) | (with_reducible refine Kd.C_drewN ?_ _) | (with_reducible refine Kd.C_drew ?_))); (case side4 => exact (Kd.R_reads' HO_6.out).2.1); rintro e w' ⟨rfl, ⟨nd, rfl⟩⟩; refine ⟨_, rfl, ?_⟩))
                              go_meet
                              case rel => exact ⟨_, ((t469 != t418)), qS, H', ⟨by have := HJ15.out; have := HJ52.out; first | omega | exact Nat.le_refl _⟩, ⟨by (try simp only [hl427001_52]); (try simp only [hl427002_52]); (with_reducible repeat (first | apply Kd.R_alloc | apply Kd.R_drewN | apply Kd.R_drew)); exact Kd.R_mono HO_10.out (fun _ hk => trivial)⟩, ⟨by (try simp only [hl427001_52]); (try simp only [hl427002_52]); (with_reducible repeat (first | apply Kd.R_alloc | apply Kd.R_drewN | apply Kd.R_drew)); exact Kd.R_mono HO_427001.out (fun _ hk => trivial)⟩, ⟨by (try simp only [hl427001_52]); (try simp only [hl427002_52]); (with_reducible repeat (first | apply Kd.R_alloc | apply Kd.R_drewN | apply Kd.R_drew)); exact Kd.R_mono HO_427002.out (fun _ hk => trivial)⟩, ⟨by (try simp only [hl427001_52]); (try simp only [hl427002_52]); (with_reducible repeat (first | refine blk_drewN ?_ _ | refine blk_drew ?_ | refine blk_alloc ?_ _)); exact BK403.out⟩, ⟨by (try simp only [hl427001_52]); (try simp only [hl427002_52]); (with_reducible repeat (first | refine blk_drewN ?_ _ | refine blk_drew ?_ | refine blk_alloc ?_ _)); exact BK426.out⟩, ⟨qB⟩⟩
                            · replace c94 := Bool.eq_false_iff.mpr c94
                              subst c94
                              have H1 : (laws_FnExactRunCircuit.j2 kj52 t454 t453 true) = some r := by rw [if_neg (show ¬ (false = true) by decide)] at H; exact H
                              clear H
                              have H := H1
                              clear H1
                              have H' := Aside0.mk H
                              clear H
                              obtain ⟨Ao97, co97, eo97⟩ := Kd.R_slice HO468.out
                              subst eo97
                              obtain ⟨Ao98, co98, eo98⟩ := Kd.R_slice HO_6.out
                              subst eo98
                              go_wp2_with (first | ((with_reducible refine gate_callee (f := 19) rfl ?_); refine goesL_ (some 102) rfl rfl Try.func19 (by kernel_rfl) rfl #[.slice Ao97 t466.length co97, .slice Ao98 t415.length co98] rfl qG ?_; (with_reducible refine (laws_eqBoolS.calls kj52 _ _ t466 _ _ t415 false _ ?side1 ?side2 ?side3 ?side4 A93.out).mono ?_); (case side1 => repeat (first | exact (Kd.R_reads' HO468.out).2.2 | (with_reducible refine Kd.C_alloc ?_ _) | (with_reducible refine Kd.C_drewN ?_ _) | (with_reducible refine Kd.C_drew ?_))); (case side2 => exact (Kd.R_reads' HO468.out).2.1); (case side3 => repeat (first | exact (Kd.R_reads' HO_6.out).2.2 | (with_reducible refine Kd.C_alloc ?_ _) | (with_reducible refine Kd.C_drewN ?_ _) | (with_reducible refine Kd.C_drew ?_))); (case side4 => exact (Kd.R_reads' HO_6.out).2.1); rintro e w' ⟨rfl, ⟨nd, rfl⟩⟩; refine ⟨_, rfl, ?_⟩))
                              go_meet
                              case rel => exact ⟨_, (true), qS, H', ⟨by have := HJ15.out; have := HJ52.out; first | omega | exact Nat.le_refl _⟩, ⟨by (try simp only [hl427001_52]); (try simp only [hl427002_52]); (with_reducible repeat (first | apply Kd.R_alloc | apply Kd.R_drewN | apply Kd.R_drew)); exact Kd.R_mono HO_10.out (fun _ hk => trivial)⟩, ⟨by (try simp only [hl427001_52]); (try simp only [hl427002_52]); (with_reducible repeat (first | apply Kd.R_alloc | apply Kd.R_drewN | apply Kd.R_drew)); exact Kd.R_mono HO_427001.out (fun _ hk => trivial)⟩, ⟨by (try simp only [hl427001_52]); (try simp only [hl427002_52]); (with_reducible repeat (first | apply Kd.R_alloc | apply Kd.R_drewN | apply Kd.R_drew)); exact Kd.R_mono HO_427002.out (fun _ hk => trivial)⟩, ⟨by (try simp only [hl427001_52]); (try simp only [hl427002_52]); (with_reducible repeat (first | refine blk_drewN ?_ _ | refine blk_drew ?_ | refine blk_alloc ?_ _)); exact BK403.out⟩, ⟨by (try simp only [hl427001_52]); (try simp only [hl427002_52]); (with_reducible repeat (first | refine blk_drewN ?_ _ | refine blk_drew ?_ | refine blk_alloc ?_ _)); exact BK426.out⟩, ⟨qB⟩⟩
                          case rest =>
                            clear HC82
                            try clear c1
                            try clear c2
                            try clear p2
                            try clear c3
                            try clear c3b0
                            try clear c3b1
                            try clear c4
                            try clear c5
                            try clear c6
                            try clear c6b0
                            try clear c7
                            try clear c8
                            try clear c9
                            try clear c11
                            try clear c13
                            try clear c15
                            try clear c17
                            try clear c19
                            try clear c20
                            try clear c21
                            try clear c22
                            try clear c23
                            try clear c24
                            try clear c30
                            try clear c39
                            try clear c44
                            try clear c47
                            try clear c50
                            try clear c61
                            try clear c65
                            try clear c65b0
                            try clear c67
                            try clear c72
                            try clear c75
                            try clear c75b0
                            try clear c78
                            try clear c78b0
                            try clear c78b1
                            try clear c85
                            try clear c94
                            try clear hcz18_0
                            try clear hcz18_1
                            try clear hcz18_2
                            try clear hcz20_0
                            try clear hcz20_1
                            try clear hcz20_2
                            try clear hcz27_0
                            try clear hcz27_1
                            try clear hcz27_2
                            try clear hcz31_0
                            try clear hcz31_1
                            try clear hcz31_2
                            try clear hcz35_0
                            try clear hcz35_1
                            try clear hcz35_2
                            try clear hcz62_0
                            try clear hcz62_1
                            try clear hcz62_2
                            try clear hcz86_0
                            try clear hcz86_1
                            try clear hcz86_2
                            try clear hcz8_0
                            try clear hcz8_1
                            try clear hcz8_2
                            try clear hfz18_0
                            try clear hfz18_1
                            try clear hfz18_2
                            try clear hfz20_0
                            try clear hfz20_1
                            try clear hfz20_2
                            try clear hfz27_0
                            try clear hfz27_1
                            try clear hfz27_2
                            try clear hfz31_0
                            try clear hfz31_1
                            try clear hfz31_2
                            try clear hfz35_0
                            try clear hfz35_1
                            try clear hfz35_2
                            try clear hfz62_0
                            try clear hfz62_1
                            try clear hfz62_2
                            try clear hfz86_0
                            try clear hfz86_1
                            try clear hfz86_2
                            try clear hfz8_0
                            try clear hfz8_1
                            try clear hfz8_2
                            try clear p2
                            obtain ⟨kq, x108_81, rfl, HA, HJ81, HO_10, HO_427001, HO_427002, BK403, BK426, HB⟩ := hcut
                            have hl10_81 := (Kd.R_reads' HO_10.out).1
                            rw [hl10_81] at HO_10
                            (try simp only [hl10_81])
                            (try simp only [hl10_81] at BK403)
                            (try simp only [hl10_81] at BK426)
                            (try simp only [hl10_81] at HO_427001)
                            (try simp only [hl10_81] at HO_427002)
                            cases kq with
                            | zero => exact absurd HA.out (by simp [laws_FnExactRunCircuit.j2])
                            | succ kj81 =>
                              have H := HA.out
                              clear HA
                              simp only [laws_FnExactRunCircuit.j2] at H
                              by_cases c99 : x108_81 = true
                              · subst c99
                                have H1 : (some false) = some r := by rw [if_pos rfl] at H; exact H
                                clear H
                                have H := H1
                                clear H1
                                obtain rfl := Option.some.inj H
                                go_wp2
                                go_ret
                                exact ⟨qE, qB⟩
                              · replace c99 := Bool.eq_false_iff.mpr c99
                                subst c99
                                have H1 : ((laws_heldBoolS.f kj81 t454 1).bind fun t471 => (if t471 < 0 then (some false) else (if t471 = t453 then (some true) else (some false)))) = some r := by rw [if_neg (show ¬ (false = true) by decide)] at H; exact H
                                clear H
                                have H := H1
                                clear H1
                                replace H := Option.bind_eq_some_iff.mp H
                                obtain ⟨t471, A1000, H⟩ := H
                                replace H : (if t471 < 0 then (some false) else (if t471 = t453 then (some true) else (some false))) = some r := H
                                have A100 := Aside0.mk A1000
                                clear A1000
                                by_cases c101 : t471 < 0
                                · rw [if_pos c101] at H
                                  have c101b0 : decide (t471 < 0) = true := decide_eq_true c101
                                  clear c101
                                  obtain rfl := Option.some.inj H
                                  go_wp2_with (first | ((with_reducible refine gate_callee (f := 22) rfl ?_); refine goesL_ (some 111) rfl rfl Try.func22 (by kernel_rfl) rfl #[.slice Ao83 t454.length co83, .int .i64 1] rfl qG ?_; (with_reducible refine (laws_heldBoolS.calls kj81 _ _ t454 1 t471 _ ?side1 ?side2 A100.out).mono ?_); (case side1 => repeat (first | exact (Kd.R_reads' HO_10.out).2.2 | (with_reducible refine Kd.C_alloc ?_ _) | (with_reducible refine Kd.C_drewN ?_ _) | (with_reducible refine Kd.C_drew ?_))); (case side2 => exact (Kd.R_reads' HO_10.out).2.1); rintro e w' ⟨rfl, ⟨nd, rfl⟩⟩; refine ⟨_, rfl, ?_⟩))
                                  go_ret
                                  exact ⟨qE, qB⟩
                                · rw [if_neg c101] at H
                                  have c101b0 : decide (t471 < 0) = false := decide_eq_false c101
                                  clear c101
                                  by_cases c102 : t471 = t453
                                  · rw [if_pos c102] at H
                                    have c102b0 : (t471 == t453) = true := beq_iff_eq.mpr c102
                                    have c102b1 : (t471 != t453) = false := bne_eq_false_iff_eq.mpr c102
                                    clear c102
                                    obtain rfl := Option.some.inj H
                                    go_wp2_with (first | ((with_reducible refine gate_callee (f := 22) rfl ?_); refine goesL_ (some 111) rfl rfl Try.func22 (by kernel_rfl) rfl #[.slice Ao83 t454.length co83, .int .i64 1] rfl qG ?_; (with_reducible refine (laws_heldBoolS.calls kj81 _ _ t454 1 t471 _ ?side1 ?side2 A100.out).mono ?_); (case side1 => repeat (first | exact (Kd.R_reads' HO_10.out).2.2 | (with_reducible refine Kd.C_alloc ?_ _) | (with_reducible refine Kd.C_drewN ?_ _) | (with_reducible refine Kd.C_drew ?_))); (case side2 => exact (Kd.R_reads' HO_10.out).2.1); rintro e w' ⟨rfl, ⟨nd, rfl⟩⟩; refine ⟨_, rfl, ?_⟩))
                                    go_ret
                                    exact ⟨qE, qB⟩
                                  · rw [if_neg c102] at H
                                    have c102b0 : (t471 == t453) = false := beq_eq_false_iff_ne.mpr c102
                                    have c102b1 : (t471 != t453) = true := bne_iff_ne.mpr c102
                                    obtain rfl := Option.some.inj H
                                    go_wp2_with (first | ((with_reducible refine gate_callee (f := 22) rfl ?_); refine goesL_ (some 111) rfl rfl Try.func22 (by kernel_rfl) rfl #[.slice Ao83 t454.length co83, .int .i64 1] rfl qG ?_; (with_reducible refine (laws_heldBoolS.calls kj81 _ _ t454 1 t471 _ ?side1 ?side2 A100.out).mono ?_); (case side1 => repeat (first | exact (Kd.R_reads' HO_10.out).2.2 | (with_reducible refine Kd.C_alloc ?_ _) | (with_reducible refine Kd.C_drewN ?_ _) | (with_reducible refine Kd.C_drew ?_))); (case side2 => exact (Kd.R_reads' HO_10.out).2.1); rintro e w' ⟨rfl, ⟨nd, rfl⟩⟩; refine ⟨_, rfl, ?_⟩))
                                    go_ret
                                    exact ⟨qE, qB⟩
                        · rw [if_neg c78] at H
                          have c78b0 : (t455 == t453) = false := beq_eq_false_iff_ne.mpr c78
                          have c78b1 : (t455 != t453) = true := bne_iff_ne.mpr c78
                          obtain rfl := Option.some.inj H
                          obtain ⟨Ao103, co103, eo103⟩ := Kd.R_slice HO_10.out
                          subst eo103
                          go_wp2_with (first | ((with_reducible refine gate_callee (f := 21) rfl ?_); refine goesL_ (some 83) rfl rfl Try.func21 (by kernel_rfl) rfl #[.slice Ao103 t430.length co103, .int .i64 1] rfl qG ?_; (with_reducible refine (laws_markBoolS.calls kj52 (fun k_ => some k_ = (.slice Ao103 t430.length co103 : Value).ownBlock) (.slice Ao103 t430.length co103) t430 1 t453 t454 w _ ?side1 ?side2 A73.out).mono ?_); (case side1 => repeat (first | (with_reducible first | exact HB.out | apply below_alloc | apply pw_below_drewN | apply below_drew1 | refine below_set ?_ GE403.out | refine below_set ?_ GE426.out) | exact HB.out)); (case side2 => exact Kd.R_tight rfl HO_10.out); rintro e w104 ⟨rfl, hy0, hb, hkp⟩; refine ⟨_, rfl, ?_⟩; have n0_ := Aside0.mk (Kd.R_mono (ok' := fun k_ => some k_ ≠ (.slice Ao103 t430.length co103 : Value).ownBlock) (Kd.R_keptB (HO_6.out) hkp (fun k_ hk_ hs_ => (hk_) hs_)) (fun k_ hk_ => hk_.1)); have n1_ := Aside0.mk (Kd.R_reok rfl hy0 (fun k_ e_ => HO_10.out.1 k_ e_)); have n2_ := Aside0.mk (Kd.R_mono (ok' := fun k_ => True) (Kd.R_keptB ((Kd.R_apart' HO_427001.out (Kd.R_typed HO_10.out) (by decide))) hkp (fun k_ hk_ hs_ => (hk_.2) hs_)) (fun k_ hk_ => trivial)); have n3_ := Aside0.mk (Kd.R_mono (ok' := fun k_ => True) (Kd.R_keptB ((Kd.R_apart' HO_427002.out (Kd.R_typed HO_10.out) (by decide))) hkp (fun k_ hk_ hs_ => (hk_.2) hs_)) (fun k_ hk_ => trivial)); have n4_ := Aside0.mk (blk_kept (qK BK403.out) hkp (fun hs_ => (fun e_ => (Kd.R_ne HO_10.out BK403.out (by decide)) e_) hs_)); have n5_ := Aside0.mk (blk_kept (qK BK426.out) hkp (fun hs_ => (fun e_ => (Kd.R_ne HO_10.out BK426.out (by decide)) e_) hs_)); have n6_ := Aside0.mk (hb); clear HO_6; clear HO_10; clear HO_427001; clear HO_427002; clear BK403; clear BK426; clear HB; have HO_6 := n0_; have HO_10 := n1_; have HO_427001 := n2_; have HO_427002 := n3_; have BK403 := n4_; have BK426 := n5_; have HB := n6_; clear n0_ n1_ n2_ n3_ n4_ n5_ n6_; (try clear hb); (try clear hkp); (try clear hy0)) | ((with_reducible refine gate_callee (f := 22) rfl ?_); refine goesL_ (some 86) rfl rfl Try.func22 (by kernel_rfl) rfl #[.slice Ao103 t454.length co103, .int .i64 1] rfl (by (try simp only [List.map_toArray, List.map_cons, List.map_nil]); first | done | (rw [show t454.length = t430.length from (Kd.R_reads' HO_10.out).1.symm] <;> rfl) | rfl | (simp only [List.length_drop, List.length_take]; rfl)) ?_; (with_reducible refine (laws_heldBoolS.calls kj52 _ _ t454 1 t455 _ ?side1 ?side2 A74.out).mono ?_); (case side1 => repeat (first | exact (Kd.R_reads' HO_10.out).2.2 | (with_reducible refine Kd.C_alloc ?_ _) | (with_reducible refine Kd.C_drewN ?_ _) | (with_reducible refine Kd.C_drew ?_))); (case side2 => rw [show t454.length = t430.length from (Kd.R_reads' HO_10.out).1.symm]; exact (Kd.R_reads' HO_10.out).2.1); rintro e w' ⟨rfl, ⟨nd, rfl⟩⟩; refine ⟨_, rfl, ?_⟩))
                          go_ret
                          exact ⟨qE, qB⟩
              · replace c50 := Bool.eq_false_iff.mpr c50
                subst c50
                have H1 : (some false) = some r := by rw [if_neg (show ¬ (false = true) by decide)] at H; exact H
                clear H
                have H := H1
                clear H1
                obtain rfl := Option.some.inj H
                try go_wp2
                have n0_ := Aside0.mk (Kd.R_drew HO_6.out)
                have n1_ := Aside0.mk (Kd.R_drew HO_9.out)
                have n2_ := Aside0.mk (Kd.R_drew HO_10.out)
                have n3_ := Aside0.mk (Kd.R_drew HO_427001.out)
                have n4_ := Aside0.mk (Kd.R_drew HO_427002.out)
                have n5_ := Aside0.mk (blk_drew BK403.out)
                have n6_ := Aside0.mk (blk_drew BK426.out)
                have n7_ := Aside0.mk (below_drew1 HB.out)
                clear HO_6
                clear HO_9
                clear HO_10
                clear HO_427001
                clear HO_427002
                clear BK403
                clear BK426
                clear HB
                have HO_6 := n0_
                have HO_9 := n1_
                have HO_10 := n2_
                have HO_427001 := n3_
                have HO_427002 := n4_
                have BK403 := n5_
                have BK426 := n6_
                have HB := n7_
                clear n0_ n1_ n2_ n3_ n4_ n5_ n6_ n7_
                refine start_ (n := 5) (S := fun w' => w'.cell? ⟨gb426, 0, none⟩ = some (.int .i64 t419) ∧ w'.cell? ⟨gb426, 1, none⟩ = some (.slice Ao32 t420.length co32) ∧ w'.cell? ⟨gb426, 2, none⟩ = some (.slice Ao33 t423.length co33) ∧ w'.cell? ⟨gb403, 0, none⟩ = some (.int .i64 a0_0) ∧ w'.cell? ⟨gb403, 1, none⟩ = some (.slice A0_1 l0_1.length c0_1) ∧ w'.cell? ⟨gb403, 2, none⟩ = some (.slice A0_2 l0_2.length c0_2)) (ds := []) #[false, false, false, false, false] (by kernel_rfl) rfl rfl ⟨(blk_cell BK426.out 0).trans rfl, (blk_cell BK426.out 1).trans rfl, (blk_cell BK426.out 2).trans rfl, (blk_cell BK403.out 0).trans rfl, (blk_cell BK403.out 1).trans rfl, (blk_cell BK403.out 2).trans rfl⟩ (fun hHeld => ?_)
                generalize wc.drew = w105 at HO_6 HO_9 HO_10 HO_427001 HO_427002 BK403 BK426 HB hHeld ⊢
                refine take_ (i := 0) (N := some 52) (v := ?_) (a' := ?_) #[true, false, false, false, false] rfl rfl (by kernel_rfl) (fun _ _ _ h => h) (Or.inl ⟨by rfl, ?_⟩) hHeld ?_ ?_
                rotate_left
                · rintro w' ⟨s0, s1, s2, s3, s4, s5⟩
                  go_simp
                  with_reducible rfl
                rotate_left
                · simp only [Act.put, List.setIfInBounds_toArray, List.set_cons_zero, List.set_cons_succ, i64_w, i32_w]
                  rfl
                refine take_ (i := 1) (N := some 53) (v := ?_) (a' := ?_) #[true, true, false, false, false] rfl rfl (by kernel_rfl) (fun _ _ _ h => h) (Or.inl ⟨by rfl, ?_⟩) hHeld ?_ ?_
                rotate_left
                · rintro w' ⟨s0, s1, s2, s3, s4, s5⟩
                  go_simp
                  with_reducible rfl
                rotate_left
                · simp only [Act.put, List.setIfInBounds_toArray, List.set_cons_zero, List.set_cons_succ, i64_w, i32_w]
                  rfl
                refine one_ (i := 2) (N := some 54) #[true, true, true, false, false] rfl rfl (by kernel_rfl) (by decide) (fun K hK => ?_)
                refine goes_ Try.func13 (by kernel_rfl) rfl #[.agg #[.int .i64 a0_0, .slice A0_1 l0_1.length c0_1, .slice A0_2 l0_2.length c0_2]] (by rfl) rfl rfl qG ?_
                with_reducible refine (laws_toCircuit.calls kj15 a0_0 _ _ l0_1 _ _ l0_2 t435 t436 t439 _ ?side1 ?side2 ?side3 ?side4 A45.out).mono ?_
                (case side1 => exact qC (Kd.C_below HR0_1.out HB.out))
                (case side2 => exact HC0_1.out)
                (case side3 => exact qC (Kd.C_below HR0_2.out HB.out))
                (case side4 => exact HC0_2.out)
                rintro e w106 ⟨v437, v440, rfl, ho0, ho1, hb⟩
                refine ⟨_, rfl, ?_⟩
                have n0_ := Aside0.mk (Kd.R_below (qR HO_6.out) hb)
                have n1_ := Aside0.mk (Kd.R_below (qR HO_9.out) hb)
                have n2_ := Aside0.mk (Kd.R_below (qR HO_10.out) hb)
                have n3_ := Aside0.mk (Kd.R_elder' (qR HO_427001.out) (Kd.R_base ho0) hb)
                have n4_ := Aside0.mk (Kd.R_elder' (qR HO_427002.out) (Kd.R_base ho1) hb)
                have n5_ := Aside0.mk (Kd.R_lower (Kd.R_new' ho0 (Kd.R_lt (qR HO_427001.out))) (below_size (qB)))
                have n6_ := Aside0.mk (Kd.R_lower (Kd.R_new' ho1 (Kd.R_lt (qR HO_427002.out))) (below_size (qB)))
                have n7_ := Aside0.mk (blk_below (g := gb403) (o := .cells #[.int .i64 a0_0, .slice A0_1 l0_1.length c0_1, .slice A0_2 l0_2.length c0_2] 25 (0, 0)) (qK BK403.out) hb)
                have n8_ := Aside0.mk (blk_below (g := gb426) (o := .cells #[.int .i64 t419, .slice Ao32 t420.length co32, .slice Ao33 t423.length co33] 30 (0, 0)) (qK BK426.out) hb)
                have n9_ := Aside0.mk (below_step (qB) hb)
                clear HO_6
                clear HO_9
                clear HO_10
                clear HO_427001
                clear HO_427002
                clear BK403
                clear BK426
                clear HB
                have HO_6 := n0_
                have HO_9 := n1_
                have HO_10 := n2_
                have HO_427001 := n3_
                have HO_427002 := n4_
                have HO438 := n5_
                have HO441 := n6_
                have BK403 := n7_
                have BK426 := n8_
                have HB := n9_
                clear n0_ n1_ n2_ n3_ n4_ n5_ n6_ n7_ n8_ n9_
                (try clear hb)
                (try clear hb2)
                (try clear hk)
                (try clear hi)
                (try clear ho0)
                (try clear ho1)
                obtain ⟨Ao107, co107, eo107⟩ := Kd.R_slice HO438.out
                (first | subst eo107 | (injection eo107 with f1_ f2_ f3_; have f4_ := f1_.symm; have f5_ := f3_.symm; clear f1_ f2_ f3_; subst f4_; subst f5_))
                obtain ⟨Ao108, co108, eo108⟩ := Kd.R_slice HO441.out
                (first | subst eo108 | (injection eo108 with f1_ f2_ f3_; have f4_ := f1_.symm; have f5_ := f3_.symm; clear f1_ f2_ f3_; subst f4_; subst f5_))
                refine hK.out _ _ ⟨(blk_cell BK426.out 0).trans rfl, (blk_cell BK426.out 1).trans rfl, (blk_cell BK426.out 2).trans rfl, (blk_cell BK403.out 0).trans rfl, (blk_cell BK403.out 1).trans rfl, (blk_cell BK403.out 2).trans rfl⟩ (fun hHeld => ?_)
                clear hK K
                refine norm_ (a' := ?_) ?_ ?_
                rotate_left
                · show Act.put _ (some 54) _ = _
                  simp only [Act.put, List.setIfInBounds_toArray, List.set_cons_zero, List.set_cons_succ, i64_w, i32_w]
                  rfl
                refine one_ (i := 3) (N := some 55) #[true, true, true, true, false] rfl rfl (by kernel_rfl) (by decide) (fun K hK => ?_)
                refine goes_ Try.func15 (by kernel_rfl) rfl #[.agg #[.int .i64 t419, .slice Ao32 t420.length co32, .slice Ao33 t423.length co33], .agg #[.int .i64 t435, .slice Ao107 t436.length co107, .slice Ao108 t439.length co108]] (by rfl) rfl rfl qG ?_
                with_reducible refine (laws_eqCircuit.calls kj15 t419 _ _ t420 _ _ t423 t435 _ _ t436 _ _ t439 true _ ?side1 ?side2 ?side3 ?side4 ?side5 ?side6 ?side7 ?side8 A46.out).mono ?_
                (case side1 => repeat (first | exact (Kd.R_reads' HO_427001.out).2.2 | (with_reducible refine Kd.C_alloc ?_ _) | (with_reducible refine Kd.C_drewN ?_ _) | (with_reducible refine Kd.C_drew ?_)))
                (case side2 => exact (Kd.R_reads' HO_427001.out).2.1)
                (case side3 => repeat (first | exact (Kd.R_reads' HO_427002.out).2.2 | (with_reducible refine Kd.C_alloc ?_ _) | (with_reducible refine Kd.C_drewN ?_ _) | (with_reducible refine Kd.C_drew ?_)))
                (case side4 => exact (Kd.R_reads' HO_427002.out).2.1)
                (case side5 => repeat (first | exact (Kd.R_reads' HO438.out).2.2 | (with_reducible refine Kd.C_alloc ?_ _) | (with_reducible refine Kd.C_drewN ?_ _) | (with_reducible refine Kd.C_drew ?_)))
                (case side6 => exact (Kd.R_reads' HO438.out).2.1)
                (case side7 => repeat (first | exact (Kd.R_reads' HO441.out).2.2 | (with_reducible refine Kd.C_alloc ?_ _) | (with_reducible refine Kd.C_drewN ?_ _) | (with_reducible refine Kd.C_drew ?_)))
                (case side8 => exact (Kd.R_reads' HO441.out).2.1)
                rintro e w109 ⟨rfl, hb⟩
                refine ⟨_, rfl, ?_⟩
                have n0_ := Aside0.mk (Kd.R_below (qR HO_6.out) hb)
                have n1_ := Aside0.mk (Kd.R_below (qR HO_9.out) hb)
                have n2_ := Aside0.mk (Kd.R_below (qR HO_10.out) hb)
                have n3_ := Aside0.mk (Kd.R_below (qR HO_427001.out) hb)
                have n4_ := Aside0.mk (Kd.R_below (qR HO_427002.out) hb)
                have n5_ := Aside0.mk (Kd.R_below (qR HO438.out) hb)
                have n6_ := Aside0.mk (Kd.R_below (qR HO441.out) hb)
                have n7_ := Aside0.mk (blk_below (g := gb403) (o := .cells #[.int .i64 a0_0, .slice A0_1 l0_1.length c0_1, .slice A0_2 l0_2.length c0_2] 25 (0, 0)) (qK BK403.out) hb)
                have n8_ := Aside0.mk (blk_below (g := gb426) (o := .cells #[.int .i64 t419, .slice Ao32 t420.length co32, .slice Ao33 t423.length co33] 30 (0, 0)) (qK BK426.out) hb)
                have n9_ := Aside0.mk (below_step (qB) hb)
                clear HO_6
                clear HO_9
                clear HO_10
                clear HO_427001
                clear HO_427002
                clear HO438
                clear HO441
                clear BK403
                clear BK426
                clear HB
                have HO_6 := n0_
                have HO_9 := n1_
                have HO_10 := n2_
                have HO_427001 := n3_
                have HO_427002 := n4_
                have HO438 := n5_
                have HO441 := n6_
                have BK403 := n7_
                have BK426 := n8_
                have HB := n9_
                clear n0_ n1_ n2_ n3_ n4_ n5_ n6_ n7_ n8_ n9_
                (try clear hb)
                (try clear hb2)
                (try clear hk)
                (try clear hi)
                refine hK.out _ _ ⟨(blk_cell BK426.out 0).trans rfl, (blk_cell BK426.out 1).trans rfl, (blk_cell BK426.out 2).trans rfl, (blk_cell BK403.out 0).trans rfl, (blk_cell BK403.out 1).trans rfl, (blk_cell BK403.out 2).trans rfl⟩ (fun hHeld => ?_)
                clear hK K
                refine norm_ (a' := ?_) ?_ ?_
                rotate_left
                · show Act.put _ (some 55) _ = _
                  simp only [Act.put, List.setIfInBounds_toArray, List.set_cons_zero, List.set_cons_succ, i64_w, i32_w]
                  rfl
                refine pure_ (i := 4) (N := some 56) (v := ?_) (a' := ?_) #[true, true, true, true, true] rfl rfl (by kernel_rfl) (fun _ _ _ h => h) (Or.inl ⟨by rfl, ?_⟩) ?_ ?_
                rotate_left
                · intro w'
                  go_simp
                  with_reducible rfl
                rotate_left
                · simp only [Act.put, List.setIfInBounds_toArray, List.set_cons_zero, List.set_cons_succ, i64_w, i32_w]
                  rfl
                refine done_ (by kernel_rfl) ?_
                try go_wp2_with (first | ((with_reducible refine gate_callee (f := 17) rfl ?_); refine goesL_ (some 59) rfl rfl Try.func17 (by kernel_rfl) rfl #[.slice A1 l1.length c1] rfl qG ?_; (with_reducible refine (laws_toBoolS.calls kj15 _ _ l1 t443 _ ?side1 ?side2 A48.out).mono ?_); (case side1 => exact qC (Kd.C_below HR1.out HB.out)); (case side2 => exact HC1.out); rintro e w110 ⟨v444, rfl, ho0, hb⟩; refine ⟨_, rfl, ?_⟩; have n0_ := Aside0.mk (Kd.R_elder' (qR HO_6.out) (Kd.R_base ho0) hb); have n1_ := Aside0.mk (Kd.R_elder' (qR HO_9.out) (Kd.R_base ho0) hb); have n2_ := Aside0.mk (Kd.R_elder' (qR HO_10.out) (Kd.R_base ho0) hb); have n3_ := Aside0.mk (Kd.R_below (qR HO_427001.out) hb); have n4_ := Aside0.mk (Kd.R_below (qR HO_427002.out) hb); have n5_ := Aside0.mk (Kd.R_below (qR HO438.out) hb); have n6_ := Aside0.mk (Kd.R_below (qR HO441.out) hb); have n7_ := Aside0.mk (Kd.R_lower (Kd.R_new' (Kd.R_new' (Kd.R_new' ho0 (Kd.R_lt (qR HO_6.out))) (Kd.R_lt (qR HO_9.out))) (Kd.R_lt (qR HO_10.out))) (below_size (qB))); have n8_ := Aside0.mk (blk_below (g := gb403) (o := .cells #[.int .i64 a0_0, .slice A0_1 l0_1.length c0_1, .slice A0_2 l0_2.length c0_2] 25 (0, 0)) (qK BK403.out) hb); have n9_ := Aside0.mk (blk_below (g := gb426) (o := .cells #[.int .i64 t419, .slice Ao32 t420.length co32, .slice Ao33 t423.length co33] 30 (0, 0)) (qK BK426.out) hb); have n10_ := Aside0.mk (below_step (qB) hb); clear HO_6; clear HO_9; clear HO_10; clear HO_427001; clear HO_427002; clear HO438; clear HO441; clear BK403; clear BK426; clear HB; have HO_6 := n0_; have HO_9 := n1_; have HO_10 := n2_; have HO_427001 := n3_; have HO_427002 := n4_; have HO438 := n5_; have HO441 := n6_; have HO445 := n7_; have BK403 := n8_; have BK426 := n9_; have HB := n10_; clear n0_ n1_ n2_ n3_ n4_ n5_ n6_ n7_ n8_ n9_ n10_; (try clear hb); (try clear hb2); (try clear hk); (try clear hi); (try clear ho0); obtain ⟨Ao111, co111, eo111⟩ := Kd.R_slice HO445.out; subst eo111) | ((with_reducible refine gate_callee (f := 19) rfl ?_); refine goesL_ (some 60) rfl rfl Try.func19 (by kernel_rfl) rfl #[.slice Ao36 t412.length co36, .slice Ao111 t443.length co111] rfl qG ?_; (with_reducible refine (laws_eqBoolS.calls kj15 _ _ t412 _ _ t443 false _ ?side1 ?side2 ?side3 ?side4 A49.out).mono ?_); (case side1 => repeat (first | exact (Kd.R_reads' HO_9.out).2.2 | (with_reducible refine Kd.C_alloc ?_ _) | (with_reducible refine Kd.C_drewN ?_ _) | (with_reducible refine Kd.C_drew ?_))); (case side2 => exact (Kd.R_reads' HO_9.out).2.1); (case side3 => repeat (first | exact (Kd.R_reads' HO445.out).2.2 | (with_reducible refine Kd.C_alloc ?_ _) | (with_reducible refine Kd.C_drewN ?_ _) | (with_reducible refine Kd.C_drew ?_))); (case side4 => exact (Kd.R_reads' HO445.out).2.1); rintro e w' ⟨rfl, ⟨nd, rfl⟩⟩; refine ⟨_, rfl, ?_⟩))
                go_ret
                exact ⟨qE, qB⟩
            · replace c47 := Bool.eq_false_iff.mpr c47
              subst c47
              have H1 : (some false) = some r := by rw [if_neg (show ¬ (false = true) by decide)] at H; exact H
              clear H
              have H := H1
              clear H1
              obtain rfl := Option.some.inj H
              try go_wp2
              have n0_ := Aside0.mk (Kd.R_drew HO_6.out)
              have n1_ := Aside0.mk (Kd.R_drew HO_9.out)
              have n2_ := Aside0.mk (Kd.R_drew HO_10.out)
              have n3_ := Aside0.mk (Kd.R_drew HO_427001.out)
              have n4_ := Aside0.mk (Kd.R_drew HO_427002.out)
              have n5_ := Aside0.mk (blk_drew BK403.out)
              have n6_ := Aside0.mk (blk_drew BK426.out)
              have n7_ := Aside0.mk (below_drew1 HB.out)
              clear HO_6
              clear HO_9
              clear HO_10
              clear HO_427001
              clear HO_427002
              clear BK403
              clear BK426
              clear HB
              have HO_6 := n0_
              have HO_9 := n1_
              have HO_10 := n2_
              have HO_427001 := n3_
              have HO_427002 := n4_
              have BK403 := n5_
              have BK426 := n6_
              have HB := n7_
              clear n0_ n1_ n2_ n3_ n4_ n5_ n6_ n7_
              refine start_ (n := 5) (S := fun w' => w'.cell? ⟨gb426, 0, none⟩ = some (.int .i64 t419) ∧ w'.cell? ⟨gb426, 1, none⟩ = some (.slice Ao32 t420.length co32) ∧ w'.cell? ⟨gb426, 2, none⟩ = some (.slice Ao33 t423.length co33) ∧ w'.cell? ⟨gb403, 0, none⟩ = some (.int .i64 a0_0) ∧ w'.cell? ⟨gb403, 1, none⟩ = some (.slice A0_1 l0_1.length c0_1) ∧ w'.cell? ⟨gb403, 2, none⟩ = some (.slice A0_2 l0_2.length c0_2)) (ds := []) #[false, false, false, false, false] (by kernel_rfl) rfl rfl ⟨(blk_cell BK426.out 0).trans rfl, (blk_cell BK426.out 1).trans rfl, (blk_cell BK426.out 2).trans rfl, (blk_cell BK403.out 0).trans rfl, (blk_cell BK403.out 1).trans rfl, (blk_cell BK403.out 2).trans rfl⟩ (fun hHeld => ?_)
              generalize wc.drew = w112 at HO_6 HO_9 HO_10 HO_427001 HO_427002 BK403 BK426 HB hHeld ⊢
              refine take_ (i := 0) (N := some 52) (v := ?_) (a' := ?_) #[true, false, false, false, false] rfl rfl (by kernel_rfl) (fun _ _ _ h => h) (Or.inl ⟨by rfl, ?_⟩) hHeld ?_ ?_
              rotate_left
              · rintro w' ⟨s0, s1, s2, s3, s4, s5⟩
                go_simp
                with_reducible rfl
              rotate_left
              · simp only [Act.put, List.setIfInBounds_toArray, List.set_cons_zero, List.set_cons_succ, i64_w, i32_w]
                rfl
              refine take_ (i := 1) (N := some 53) (v := ?_) (a' := ?_) #[true, true, false, false, false] rfl rfl (by kernel_rfl) (fun _ _ _ h => h) (Or.inl ⟨by rfl, ?_⟩) hHeld ?_ ?_
              rotate_left
              · rintro w' ⟨s0, s1, s2, s3, s4, s5⟩
                go_simp
                with_reducible rfl
              rotate_left
              · simp only [Act.put, List.setIfInBounds_toArray, List.set_cons_zero, List.set_cons_succ, i64_w, i32_w]
                rfl
              refine one_ (i := 2) (N := some 54) #[true, true, true, false, false] rfl rfl (by kernel_rfl) (by decide) (fun K hK => ?_)
              refine goes_ Try.func13 (by kernel_rfl) rfl #[.agg #[.int .i64 a0_0, .slice A0_1 l0_1.length c0_1, .slice A0_2 l0_2.length c0_2]] (by rfl) rfl rfl qG ?_
              with_reducible refine (laws_toCircuit.calls kj15 a0_0 _ _ l0_1 _ _ l0_2 t435 t436 t439 _ ?side1 ?side2 ?side3 ?side4 A45.out).mono ?_
              (case side1 => exact qC (Kd.C_below HR0_1.out HB.out))
              (case side2 => exact HC0_1.out)
              (case side3 => exact qC (Kd.C_below HR0_2.out HB.out))
              (case side4 => exact HC0_2.out)
              rintro e w113 ⟨v437, v440, rfl, ho0, ho1, hb⟩
              refine ⟨_, rfl, ?_⟩
              have n0_ := Aside0.mk (Kd.R_below (qR HO_6.out) hb)
              have n1_ := Aside0.mk (Kd.R_below (qR HO_9.out) hb)
              have n2_ := Aside0.mk (Kd.R_below (qR HO_10.out) hb)
              have n3_ := Aside0.mk (Kd.R_elder' (qR HO_427001.out) (Kd.R_base ho0) hb)
              have n4_ := Aside0.mk (Kd.R_elder' (qR HO_427002.out) (Kd.R_base ho1) hb)
              have n5_ := Aside0.mk (Kd.R_lower (Kd.R_new' ho0 (Kd.R_lt (qR HO_427001.out))) (below_size (qB)))
              have n6_ := Aside0.mk (Kd.R_lower (Kd.R_new' ho1 (Kd.R_lt (qR HO_427002.out))) (below_size (qB)))
              have n7_ := Aside0.mk (blk_below (g := gb403) (o := .cells #[.int .i64 a0_0, .slice A0_1 l0_1.length c0_1, .slice A0_2 l0_2.length c0_2] 25 (0, 0)) (qK BK403.out) hb)
              have n8_ := Aside0.mk (blk_below (g := gb426) (o := .cells #[.int .i64 t419, .slice Ao32 t420.length co32, .slice Ao33 t423.length co33] 30 (0, 0)) (qK BK426.out) hb)
              have n9_ := Aside0.mk (below_step (qB) hb)
              clear HO_6
              clear HO_9
              clear HO_10
              clear HO_427001
              clear HO_427002
              clear BK403
              clear BK426
              clear HB
              have HO_6 := n0_
              have HO_9 := n1_
              have HO_10 := n2_
              have HO_427001 := n3_
              have HO_427002 := n4_
              have HO438 := n5_
              have HO441 := n6_
              have BK403 := n7_
              have BK426 := n8_
              have HB := n9_
              clear n0_ n1_ n2_ n3_ n4_ n5_ n6_ n7_ n8_ n9_
              (try clear hb)
              (try clear hb2)
              (try clear hk)
              (try clear hi)
              (try clear ho0)
              (try clear ho1)
              obtain ⟨Ao114, co114, eo114⟩ := Kd.R_slice HO438.out
              (first | subst eo114 | (injection eo114 with f1_ f2_ f3_; have f4_ := f1_.symm; have f5_ := f3_.symm; clear f1_ f2_ f3_; subst f4_; subst f5_))
              obtain ⟨Ao115, co115, eo115⟩ := Kd.R_slice HO441.out
              (first | subst eo115 | (injection eo115 with f1_ f2_ f3_; have f4_ := f1_.symm; have f5_ := f3_.symm; clear f1_ f2_ f3_; subst f4_; subst f5_))
              refine hK.out _ _ ⟨(blk_cell BK426.out 0).trans rfl, (blk_cell BK426.out 1).trans rfl, (blk_cell BK426.out 2).trans rfl, (blk_cell BK403.out 0).trans rfl, (blk_cell BK403.out 1).trans rfl, (blk_cell BK403.out 2).trans rfl⟩ (fun hHeld => ?_)
              clear hK K
              refine norm_ (a' := ?_) ?_ ?_
              rotate_left
              · show Act.put _ (some 54) _ = _
                simp only [Act.put, List.setIfInBounds_toArray, List.set_cons_zero, List.set_cons_succ, i64_w, i32_w]
                rfl
              refine one_ (i := 3) (N := some 55) #[true, true, true, true, false] rfl rfl (by kernel_rfl) (by decide) (fun K hK => ?_)
              refine goes_ Try.func15 (by kernel_rfl) rfl #[.agg #[.int .i64 t419, .slice Ao32 t420.length co32, .slice Ao33 t423.length co33], .agg #[.int .i64 t435, .slice Ao114 t436.length co114, .slice Ao115 t439.length co115]] (by rfl) rfl rfl qG ?_
              with_reducible refine (laws_eqCircuit.calls kj15 t419 _ _ t420 _ _ t423 t435 _ _ t436 _ _ t439 false _ ?side1 ?side2 ?side3 ?side4 ?side5 ?side6 ?side7 ?side8 A46.out).mono ?_
              (case side1 => repeat (first | exact (Kd.R_reads' HO_427001.out).2.2 | (with_reducible refine Kd.C_alloc ?_ _) | (with_reducible refine Kd.C_drewN ?_ _) | (with_reducible refine Kd.C_drew ?_)))
              (case side2 => exact (Kd.R_reads' HO_427001.out).2.1)
              (case side3 => repeat (first | exact (Kd.R_reads' HO_427002.out).2.2 | (with_reducible refine Kd.C_alloc ?_ _) | (with_reducible refine Kd.C_drewN ?_ _) | (with_reducible refine Kd.C_drew ?_)))
              (case side4 => exact (Kd.R_reads' HO_427002.out).2.1)
              (case side5 => repeat (first | exact (Kd.R_reads' HO438.out).2.2 | (with_reducible refine Kd.C_alloc ?_ _) | (with_reducible refine Kd.C_drewN ?_ _) | (with_reducible refine Kd.C_drew ?_)))
              (case side6 => exact (Kd.R_reads' HO438.out).2.1)
              (case side7 => repeat (first | exact (Kd.R_reads' HO441.out).2.2 | (with_reducible refine Kd.C_alloc ?_ _) | (with_reducible refine Kd.C_drewN ?_ _) | (with_reducible refine Kd.C_drew ?_)))
              (case side8 => exact (Kd.R_reads' HO441.out).2.1)
              rintro e w116 ⟨rfl, hb⟩
              refine ⟨_, rfl, ?_⟩
              have n0_ := Aside0.mk (Kd.R_below (qR HO_6.out) hb)
              have n1_ := Aside0.mk (Kd.R_below (qR HO_9.out) hb)
              have n2_ := Aside0.mk (Kd.R_below (qR HO_10.out) hb)
              have n3_ := Aside0.mk (Kd.R_below (qR HO_427001.out) hb)
              have n4_ := Aside0.mk (Kd.R_below (qR HO_427002.out) hb)
              have n5_ := Aside0.mk (Kd.R_below (qR HO438.out) hb)
              have n6_ := Aside0.mk (Kd.R_below (qR HO441.out) hb)
              have n7_ := Aside0.mk (blk_below (g := gb403) (o := .cells #[.int .i64 a0_0, .slice A0_1 l0_1.length c0_1, .slice A0_2 l0_2.length c0_2] 25 (0, 0)) (qK BK403.out) hb)
              have n8_ := Aside0.mk (blk_below (g := gb426) (o := .cells #[.int .i64 t419, .slice Ao32 t420.length co32, .slice Ao33 t423.length co33] 30 (0, 0)) (qK BK426.out) hb)
              have n9_ := Aside0.mk (below_step (qB) hb)
              clear HO_6
              clear HO_9
              clear HO_10
              clear HO_427001
              clear HO_427002
              clear HO438
              clear HO441
              clear BK403
              clear BK426
              clear HB
              have HO_6 := n0_
              have HO_9 := n1_
              have HO_10 := n2_
              have HO_427001 := n3_
              have HO_427002 := n4_
              have HO438 := n5_
              have HO441 := n6_
              have BK403 := n7_
              have BK426 := n8_
              have HB := n9_
              clear n0_ n1_ n2_ n3_ n4_ n5_ n6_ n7_ n8_ n9_
              (try clear hb)
              (try clear hb2)
              (try clear hk)
              (try clear hi)
              refine hK.out _ _ ⟨(blk_cell BK426.out 0).trans rfl, (blk_cell BK426.out 1).trans rfl, (blk_cell BK426.out 2).trans rfl, (blk_cell BK403.out 0).trans rfl, (blk_cell BK403.out 1).trans rfl, (blk_cell BK403.out 2).trans rfl⟩ (fun hHeld => ?_)
              clear hK K
              refine norm_ (a' := ?_) ?_ ?_
              rotate_left
              · show Act.put _ (some 55) _ = _
                simp only [Act.put, List.setIfInBounds_toArray, List.set_cons_zero, List.set_cons_succ, i64_w, i32_w]
                rfl
              refine pure_ (i := 4) (N := some 56) (v := ?_) (a' := ?_) #[true, true, true, true, true] rfl rfl (by kernel_rfl) (fun _ _ _ h => h) (Or.inl ⟨by rfl, ?_⟩) ?_ ?_
              rotate_left
              · intro w'
                go_simp
                with_reducible rfl
              rotate_left
              · simp only [Act.put, List.setIfInBounds_toArray, List.set_cons_zero, List.set_cons_succ, i64_w, i32_w]
                rfl
              refine done_ (by kernel_rfl) ?_
              try go_wp2
              go_ret
              exact ⟨qE, qB⟩
/-- THE PURE STATEMENT of laws_FnExactRunCircuit. -/
def laws_FnExactRunCircuit.Pure : Prop := ∀ (a0_0 : Int) (l0_1 : List (S82)) (l0_2 : List Int) (l1 : List Bool), (Lit.int .i64 a0_0).wf = true → ((l0_1).length ≤ maxLen ∧ ∀ y ∈ l0_1, wf82 y) → ((l0_2).length ≤ maxLen ∧ ∀ y ∈ l0_2, (Lit.int .i64 y).wf = true) → ((l1).length ≤ maxLen ∧ ∀ y ∈ l1, True) → ∃ k, laws_FnExactRunCircuit.f k a0_0 l0_1 l0_2 l1 = some true
theorem laws_FnExactRunCircuit.walk (P : laws_FnExactRunCircuit.Pure) (a0_0 : Int) (A0_1 : Option Addr) (c0_1 : Nat) (l0_1 : List (S82)) (A0_2 : Option Addr) (c0_2 : Nat) (l0_2 : List Int) (A1 : Option Addr) (c1 : Nat) (l1 : List Bool) (w : World) (hr0_1 : Kd.C k82 w A0_1 l0_1.length l0_1) (hc0_1 : l0_1.length ≤ c0_1) (hr0_2 : Kd.C (Kd.int .i64) w A0_2 l0_2.length l0_2) (hc0_2 : l0_2.length ≤ c0_2) (hr1 : Kd.C Kd.bool w A1 l1.length l1) (hc1 : l1.length ≤ c1) (w0_0 : (Lit.int .i64 a0_0).wf = true) (w0_1 : ((l0_1).length ≤ maxLen ∧ ∀ y ∈ l0_1, wf82 y)) (w0_2 : ((l0_2).length ≤ maxLen ∧ ∀ y ∈ l0_2, (Lit.int .i64 y).wf = true)) (w1 : ((l1).length ≤ maxLen ∧ ∀ y ∈ l1, True)) :
    Calls Try.prog 5 #[.agg #[.int .i64 a0_0, .slice A0_1 l0_1.length c0_1, .slice A0_2 l0_2.length c0_2], .slice A1 l1.length c1] w fun e w' => e = .returned (.bool true) ∧ Below w.heap.size w w' := by
  obtain ⟨k, h⟩ := P a0_0 l0_1 l0_2 l1 w0_0 w0_1 w0_2 w1
  refine (laws_FnExactRunCircuit.calls k a0_0 A0_1 c0_1 l0_1 A0_2 c0_2 l0_2 A1 c1 l1 true w hr0_1 hc0_1 hr0_2 hc0_2 hr1 hc1 h).mono ?_
  rintro e w' ⟨rfl, hd⟩
  exact ⟨rfl, hd⟩

end Go.Proofs.Ytimkjhdopncimaa.X
