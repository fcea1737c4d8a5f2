/- Each Go function as a Lean function, with the proof that the call comes to just its answer; or a law's row out of its pure statement. Conditions: the arguments are of their kinds. Written by this session's program wip/xp/xp.sh. -/
import Derived.Test.YtimkjhdopncimaaX0
import Derived.Test.YtimkjhdopncimaaX1
import Derived.Test.YtimkjhdopncimaaX5
import Derived.Test.YtimkjhdopncimaaX13
import Derived.Test.YtimkjhdopncimaaX16
import Derived.Test.YtimkjhdopncimaaX18
import Derived.Test.YtimkjhdopncimaaX19
import Derived.Test.YtimkjhdopncimaaXO
namespace Go.Proofs.Ytimkjhdopncimaa.X
open Go.RowKit Go.Proofs.YtimkjhdopncimaaW.PrintWords Go.Proofs.YtimkjhdopncimaaW.PrintLast Go.Proofs.YtimkjhdopncimaaW.PrintMore
attribute [local go_sem] max2_int min2_int max_two min_two max_three min_three max_four min_four   -- for this text's walks alone
set_option linter.unusedVariables false
set_option linter.unusedSimpArgs false

/-! ### laws_FnExactAllWires: function 4 -/
mutual
def laws_FnExactAllWires.j0 : Nat → List Bool → List Bool → Bool → List Bool → List Bool → Bool → Bool → Int → List (S82) → List Int → Int → List (S59) → List Int → Option (Bool)
  | 0, _, _, _, _, _, _, _, _, _, _, _, _, _ => none
  | k + 1, x1, x6, x7, x9, x10, x11, x51, x312000, x312001, x312002, x335000, x335001, x335002 => if x51 = true then (some false) else ((laws_toCircuit.f k x312000 x312001 x312002).bind fun bt343 => ((laws_eqCircuit.f k x335000 x335001 x335002 bt343.1 bt343.2.1 bt343.2.2).bind fun t350 => (if t350 = true then ((laws_toBoolS.f k x1).bind fun t351 => ((laws_eqBoolS.f k x9 t351).bind fun t354 => (if t354 = true then ((laws_markCircuit.f k x335000 x335001 x335002 1).bind fun bt355 => ((laws_markBoolS.f k x9 bt355.1).bind fun bt358 => (if bt358.1 < 0 then (laws_FnExactAllWires.j1 k x1 x6 x7 x10 true x312000 x312001 x312002) else ((laws_eqBoolS.f k x10 x6).bind fun t360 => (if t360 = true then (laws_FnExactAllWires.j1 k x1 x6 x7 x10 (x11 != x7) x312000 x312001 x312002) else (laws_FnExactAllWires.j1 k x1 x6 x7 x10 true x312000 x312001 x312002)))))) else (some false)))) else (some false))))
def laws_FnExactAllWires.j1 : Nat → List Bool → List Bool → Bool → List Bool → Bool → Int → List (S82) → List Int → Option (Bool)
  | 0, _, _, _, _, _, _, _, _ => none
  | k + 1, x1, x6, x7, x10, x80, x312000, x312001, x312002 => if x80 = true then (some false) else ((laws_markBoolS.f k x10 1).bind fun bt361 => ((laws_heldBoolS.f k bt361.2 1).bind fun t363 => (if t363 < 0 then (some false) else (if t363 = bt361.1 then ((laws_toCircuit.f k x312000 x312001 x312002).bind fun bt364 => ((laws_toBoolS.f k x1).bind fun t371 => ((impl_AllWires.f k bt364.1 bt364.2.1 bt364.2.2 t371).bind fun bt374 => ((laws_eqBoolS.f k bt374.1 x6).bind fun t378 => (if t378 = true then (laws_FnExactAllWires.j2 k bt361.2 bt361.1 (bt374.2 != x7)) else (laws_FnExactAllWires.j2 k bt361.2 bt361.1 true)))))) else (some false)))))
def laws_FnExactAllWires.j2 : Nat → List Bool → Int → Bool → Option (Bool)
  | 0, _, _, _ => none
  | k + 1, x10, x13, x108 => if x108 = true then (some false) else ((laws_heldBoolS.f k x10 1).bind fun t379 => (if t379 < 0 then (some false) else (if t379 = x13 then (some true) else (some false))))
end
def laws_FnExactAllWires.f (k : Nat) (a0_0 : Int) (l0_1 : List (S82)) (l0_2 : List Int) (l1 : List Bool) : Option (Bool) := if (l1.length : Int) > 1048576 then (some true) else ((laws_szCircuit.f a0_0 l0_1 l0_2 1048576).bind fun t312 => (if t312 < 0 then (some true) else ((laws_toCircuit.f k a0_0 l0_1 l0_2).bind fun bt313 => ((laws_toBoolS.f k l1).bind fun t320 => ((spec_AllWires.f k bt313.1 bt313.2.1 bt313.2.2 t320).bind fun bt323 => ((laws_toCircuit.f k a0_0 l0_1 l0_2).bind fun bt327 => ((laws_toBoolS.f k l1).bind fun t335 => ((impl_AllWires.f k bt327.1 bt327.2.1 bt327.2.2 t335).bind fun bt338 => ((laws_eqBoolS.f k bt338.1 bt323.1).bind fun t342 => (if t342 = true then (laws_FnExactAllWires.j0 k l1 bt323.1 bt323.2 t335 bt338.1 bt338.2 (bt338.2 != bt323.2) a0_0 l0_1 l0_2 bt327.1 bt327.2.1 bt327.2.2) else (laws_FnExactAllWires.j0 k l1 bt323.1 bt323.2 t335 bt338.1 bt338.2 true a0_0 l0_1 l0_2 bt327.1 bt327.2.1 bt327.2.2)))))))))))
theorem laws_FnExactAllWires.mono_l : ∀ k, (∀ y0 y1 y2 y3 y4 y5 y6 y7 y8 y9 y10 y11 y12, LeO (laws_FnExactAllWires.j0 k y0 y1 y2 y3 y4 y5 y6 y7 y8 y9 y10 y11 y12) (laws_FnExactAllWires.j0 (k + 1) y0 y1 y2 y3 y4 y5 y6 y7 y8 y9 y10 y11 y12)) ∧ (∀ y0 y1 y2 y3 y4 y5 y6 y7, LeO (laws_FnExactAllWires.j1 k y0 y1 y2 y3 y4 y5 y6 y7) (laws_FnExactAllWires.j1 (k + 1) y0 y1 y2 y3 y4 y5 y6 y7)) ∧ (∀ y0 y1 y2, LeO (laws_FnExactAllWires.j2 k y0 y1 y2) (laws_FnExactAllWires.j2 (k + 1) y0 y1 y2))
  | 0 => ⟨fun _ _ _ _ _ _ _ _ _ _ _ _ _ r h => by simp [laws_FnExactAllWires.j0] at h, fun _ _ _ _ _ _ _ _ r h => by simp [laws_FnExactAllWires.j1] at h, fun _ _ _ r h => by simp [laws_FnExactAllWires.j2] at h⟩
  | k + 1 => by
    obtain ⟨ih0, ih1, ih2⟩ := laws_FnExactAllWires.mono_l k
    refine ⟨?_, ?_, ?_⟩
    · intro y0 y1 y2 y3 y4 y5 y6 y7 y8 y9 y10 y11 y12
      unfold laws_FnExactAllWires.j0
      repeat' first
      | (with_reducible exact ih0 _ _ _ _ _ _ _ _ _ _ _ _ _)
      | (with_reducible exact ih1 _ _ _ _ _ _ _ _)
      | (with_reducible exact ih2 _ _ _)
      | (with_reducible exact impl_AllWires.mono _ _ _ _ _)
      | (with_reducible exact laws_eqBoolS.mono _ _ _)
      | (with_reducible exact laws_eqCircuit.mono _ _ _ _ _ _ _)
      | (with_reducible exact laws_heldBoolS.mono _ _ _)
      | (with_reducible exact laws_markBoolS.mono _ _ _)
      | (with_reducible exact laws_markCircuit.mono _ _ _ _ _)
      | (with_reducible exact laws_toBoolS.mono _ _)
      | (with_reducible exact laws_toCircuit.mono _ _ _ _)
      | (with_reducible exact spec_AllWires.mono _ _ _ _ _)
      | (with_reducible exact LeO.refl _)
      | (with_reducible exact LeO.none _)
      | (with_reducible refine LeO.ite ?_ ?_)
      | (with_reducible refine LeO.bind ?_ (fun _ => ?_))
      | exact ih0 _ _ _ _ _ _ _ _ _ _ _ _ _
      | exact ih1 _ _ _ _ _ _ _ _
      | exact ih2 _ _ _
      | exact impl_AllWires.mono _ _ _ _ _
      | exact laws_eqBoolS.mono _ _ _
      | exact laws_eqCircuit.mono _ _ _ _ _ _ _
      | exact laws_heldBoolS.mono _ _ _
      | exact laws_markBoolS.mono _ _ _
      | exact laws_markCircuit.mono _ _ _ _ _
      | exact laws_toBoolS.mono _ _
      | exact laws_toCircuit.mono _ _ _ _
      | exact spec_AllWires.mono _ _ _ _ _
      | exact LeO.none _
      | refine LeO.ite ?_ ?_
      | refine LeO.bind ?_ (fun _ => ?_)
    · intro y0 y1 y2 y3 y4 y5 y6 y7
      unfold laws_FnExactAllWires.j1
      repeat' first
      | (with_reducible exact ih0 _ _ _ _ _ _ _ _ _ _ _ _ _)
      | (with_reducible exact ih1 _ _ _ _ _ _ _ _)
      | (with_reducible exact ih2 _ _ _)
      | (with_reducible exact impl_AllWires.mono _ _ _ _ _)
      | (with_reducible exact laws_eqBoolS.mono _ _ _)
      | (with_reducible exact laws_eqCircuit.mono _ _ _ _ _ _ _)
      | (with_reducible exact laws_heldBoolS.mono _ _ _)
      | (with_reducible exact laws_markBoolS.mono _ _ _)
      | (with_reducible exact laws_markCircuit.mono _ _ _ _ _)
      | (with_reducible exact laws_toBoolS.mono _ _)
      | (with_reducible exact laws_toCircuit.mono _ _ _ _)
      | (with_reducible exact spec_AllWires.mono _ _ _ _ _)
      | (with_reducible exact LeO.refl _)
      | (with_reducible exact LeO.none _)
      | (with_reducible refine LeO.ite ?_ ?_)
      | (with_reducible refine LeO.bind ?_ (fun _ => ?_))
      | exact ih0 _ _ _ _ _ _ _ _ _ _ _ _ _
      | exact ih1 _ _ _ _ _ _ _ _
      | exact ih2 _ _ _
      | exact impl_AllWires.mono _ _ _ _ _
      | exact laws_eqBoolS.mono _ _ _
      | exact laws_eqCircuit.mono _ _ _ _ _ _ _
      | exact laws_heldBoolS.mono _ _ _
      | exact laws_markBoolS.mono _ _ _
      | exact laws_markCircuit.mono _ _ _ _ _
      | exact laws_toBoolS.mono _ _
      | exact laws_toCircuit.mono _ _ _ _
      | exact spec_AllWires.mono _ _ _ _ _
      | exact LeO.none _
      | refine LeO.ite ?_ ?_
      | refine LeO.bind ?_ (fun _ => ?_)
    · intro y0 y1 y2
      unfold laws_FnExactAllWires.j2
      repeat' first
      | (with_reducible exact ih0 _ _ _ _ _ _ _ _ _ _ _ _ _)
      | (with_reducible exact ih1 _ _ _ _ _ _ _ _)
      | (with_reducible exact ih2 _ _ _)
      | (with_reducible exact impl_AllWires.mono _ _ _ _ _)
      | (with_reducible exact laws_eqBoolS.mono _ _ _)
      | (with_reducible exact laws_eqCircuit.mono _ _ _ _ _ _ _)
      | (with_reducible exact laws_heldBoolS.mono _ _ _)
      | (with_reducible exact laws_markBoolS.mono _ _ _)
      | (with_reducible exact laws_markCircuit.mono _ _ _ _ _)
      | (with_reducible exact laws_toBoolS.mono _ _)
      | (with_reducible exact laws_toCircuit.mono _ _ _ _)
      | (with_reducible exact spec_AllWires.mono _ _ _ _ _)
      | (with_reducible exact LeO.refl _)
      | (with_reducible exact LeO.none _)
      | (with_reducible refine LeO.ite ?_ ?_)
      | (with_reducible refine LeO.bind ?_ (fun _ => ?_))
      | exact ih0 _ _ _ _ _ _ _ _ _ _ _ _ _
      | exact ih1 _ _ _ _ _ _ _ _
      | exact ih2 _ _ _
      | exact impl_AllWires.mono _ _ _ _ _
      | exact laws_eqBoolS.mono _ _ _
      | exact laws_eqCircuit.mono _ _ _ _ _ _ _
      | exact laws_heldBoolS.mono _ _ _
      | exact laws_markBoolS.mono _ _ _
      | exact laws_markCircuit.mono _ _ _ _ _
      | exact laws_toBoolS.mono _ _
      | exact laws_toCircuit.mono _ _ _ _
      | exact spec_AllWires.mono _ _ _ _ _
      | exact LeO.none _
      | refine LeO.ite ?_ ?_
      | refine LeO.bind ?_ (fun _ => ?_)
theorem laws_FnExactAllWires.mono : ∀ a0 a1 a2 a3 k, LeO (laws_FnExactAllWires.f k a0 a1 a2 a3) (laws_FnExactAllWires.f (k + 1) a0 a1 a2 a3) := by
  intro a0 a1 a2 a3 k
  obtain ⟨ih0, ih1, ih2⟩ := laws_FnExactAllWires.mono_l k
  unfold laws_FnExactAllWires.f
  repeat' first
      | (with_reducible exact ih0 _ _ _ _ _ _ _ _ _ _ _ _ _)
      | (with_reducible exact ih1 _ _ _ _ _ _ _ _)
      | (with_reducible exact ih2 _ _ _)
      | (with_reducible exact impl_AllWires.mono _ _ _ _ _)
      | (with_reducible exact laws_eqBoolS.mono _ _ _)
      | (with_reducible exact laws_eqCircuit.mono _ _ _ _ _ _ _)
      | (with_reducible exact laws_heldBoolS.mono _ _ _)
      | (with_reducible exact laws_markBoolS.mono _ _ _)
      | (with_reducible exact laws_markCircuit.mono _ _ _ _ _)
      | (with_reducible exact laws_toBoolS.mono _ _)
      | (with_reducible exact laws_toCircuit.mono _ _ _ _)
      | (with_reducible exact spec_AllWires.mono _ _ _ _ _)
      | (with_reducible exact LeO.refl _)
      | (with_reducible exact LeO.none _)
      | (with_reducible refine LeO.ite ?_ ?_)
      | (with_reducible refine LeO.bind ?_ (fun _ => ?_))
      | exact ih0 _ _ _ _ _ _ _ _ _ _ _ _ _
      | exact ih1 _ _ _ _ _ _ _ _
      | exact ih2 _ _ _
      | exact impl_AllWires.mono _ _ _ _ _
      | exact laws_eqBoolS.mono _ _ _
      | exact laws_eqCircuit.mono _ _ _ _ _ _ _
      | exact laws_heldBoolS.mono _ _ _
      | exact laws_markBoolS.mono _ _ _
      | exact laws_markCircuit.mono _ _ _ _ _
      | exact laws_toBoolS.mono _ _
      | exact laws_toCircuit.mono _ _ _ _
      | exact spec_AllWires.mono _ _ _ _ _
      | exact LeO.none _
      | refine LeO.ite ?_ ?_
      | refine LeO.bind ?_ (fun _ => ?_)
set_option maxHeartbeats 8000000 in
set_option maxRecDepth 100000 in
theorem laws_FnExactAllWires.calls (k : Nat) (a0_0 : Int) (A0_1 : Option Addr) (c0_1 : Nat) (l0_1 : List (S82)) (A0_2 : Option Addr) (c0_2 : Nat) (l0_2 : List Int) (A1 : Option Addr) (c1 : Nat) (l1 : List Bool) (r : Bool) (w : World) (hr0_1 : Kd.C k82 w A0_1 l0_1.length l0_1) (hc0_1 : l0_1.length ≤ c0_1) (hr0_2 : Kd.C (Kd.int .i64) w A0_2 l0_2.length l0_2) (hc0_2 : l0_2.length ≤ c0_2) (hr1 : Kd.C Kd.bool w A1 l1.length l1) (hc1 : l1.length ≤ c1) (h : laws_FnExactAllWires.f k a0_0 l0_1 l0_2 l1 = some r) :
    Calls Try.prog 4 #[.agg #[.int .i64 a0_0, .slice A0_1 l0_1.length c0_1, .slice A0_2 l0_2.length c0_2], .slice A1 l1.length c1] w fun e w' => e = .returned (.bool r) ∧ Below w.heap.size w w' := by
  have hu25 := Try.underlying25
  have hu30 := Try.underlying30
  have HR0_1 := Aside0.mk hr0_1
  have HC0_1 := Aside0.mk hc0_1
  clear hr0_1 hc0_1
  have HR0_2 := Aside0.mk hr0_2
  have HC0_2 := Aside0.mk hc0_2
  clear hr0_2 hc0_2
  have HR1 := Aside0.mk hr1
  have HC1 := Aside0.mk hc1
  clear hr1 hc1
  have HB := Aside0.mk (Below.refl w.heap.size w)
  have H : (if (l1.length : Int) > 1048576 then (some true) else ((laws_szCircuit.f a0_0 l0_1 l0_2 1048576).bind fun t312 => (if t312 < 0 then (some true) else ((laws_toCircuit.f k a0_0 l0_1 l0_2).bind fun bt313 => ((laws_toBoolS.f k l1).bind fun t320 => ((spec_AllWires.f k bt313.1 bt313.2.1 bt313.2.2 t320).bind fun bt323 => ((laws_toCircuit.f k a0_0 l0_1 l0_2).bind fun bt327 => ((laws_toBoolS.f k l1).bind fun t335 => ((impl_AllWires.f k bt327.1 bt327.2.1 bt327.2.2 t335).bind fun bt338 => ((laws_eqBoolS.f k bt338.1 bt323.1).bind fun t342 => (if t342 = true then (laws_FnExactAllWires.j0 k l1 bt323.1 bt323.2 t335 bt338.1 bt338.2 (bt338.2 != bt323.2) a0_0 l0_1 l0_2 bt327.1 bt327.2.1 bt327.2.2) else (laws_FnExactAllWires.j0 k l1 bt323.1 bt323.2 t335 bt338.1 bt338.2 true a0_0 l0_1 l0_2 bt327.1 bt327.2.1 bt327.2.2)))))))))))) = some r := h
  clear h
  by_cases c3 : (l1.length : Int) > 1048576
  · rw [if_pos c3] at H
    have c3b0 : decide (1048576 < (l1.length : Int)) = true := decide_eq_true c3
    have c3b1 : decide (1048576 < l1.length) = true := decide_eq_true (by omega)
    clear c3
    obtain rfl := Option.some.inj H
    go_enter Try.func4, Try.ntmps4
    go_wp2_with (first | ((with_reducible refine gate_dst (N := 2) rfl ?_); refine box_event ?hg (N := 2) ?hd (cs := #[.int .i64 a0_0, .slice A0_1 l0_1.length c0_1, .slice A0_2 l0_2.length c0_2]) (t := 25) ?hr ?_; (case hd => rfl); (case hg => rfl); (case hr => first | (go_simp; done) | (go_simp; rfl)); intro gb311 hg w4 hbox hb; have n0_ := Aside0.mk (below_step (qB) hb); have n1_ := Aside0.mk (hbox); have n2_ := Aside0.mk ((by rw [hg]; exact (below_size (qB)) : w.heap.size ≤ gb311)); have n3_ := Aside0.mk ((by rw [hg]; exact (below_size (qB)) : w.heap.size ≤ gb311)); clear HB; have HB := n0_; have BK311 := n1_; have GW311 := n2_; have GE311 := n3_; clear n0_ n1_ n2_ n3_; clear hb hbox hg))
    go_ret
    exact ⟨qE, qB⟩
  · rw [if_neg c3] at H
    have c3b0 : decide (1048576 < (l1.length : Int)) = false := decide_eq_false c3
    have c3b1 : decide (1048576 < l1.length) = false := decide_eq_false (by omega)
    clear c3
    replace H := Option.bind_eq_some_iff.mp H
    obtain ⟨t312, A50, H⟩ := H
    replace H : (if t312 < 0 then (some true) else ((laws_toCircuit.f k a0_0 l0_1 l0_2).bind fun bt313 => ((laws_toBoolS.f k l1).bind fun t320 => ((spec_AllWires.f k bt313.1 bt313.2.1 bt313.2.2 t320).bind fun bt323 => ((laws_toCircuit.f k a0_0 l0_1 l0_2).bind fun bt327 => ((laws_toBoolS.f k l1).bind fun t335 => ((impl_AllWires.f k bt327.1 bt327.2.1 bt327.2.2 t335).bind fun bt338 => ((laws_eqBoolS.f k bt338.1 bt323.1).bind fun t342 => (if t342 = true then (laws_FnExactAllWires.j0 k l1 bt323.1 bt323.2 t335 bt338.1 bt338.2 (bt338.2 != bt323.2) a0_0 l0_1 l0_2 bt327.1 bt327.2.1 bt327.2.2) else (laws_FnExactAllWires.j0 k l1 bt323.1 bt323.2 t335 bt338.1 bt338.2 true a0_0 l0_1 l0_2 bt327.1 bt327.2.1 bt327.2.2)))))))))) = some r := H
    have A5 := Aside0.mk A50
    clear A50
    by_cases c6 : t312 < 0
    · rw [if_pos c6] at H
      have c6b0 : decide (t312 < 0) = true := decide_eq_true c6
      clear c6
      obtain rfl := Option.some.inj H
      go_enter Try.func4, Try.ntmps4
      go_wp2_with (first | ((with_reducible refine gate_dst (N := 2) rfl ?_); refine box_event ?hg (N := 2) ?hd (cs := #[.int .i64 a0_0, .slice A0_1 l0_1.length c0_1, .slice A0_2 l0_2.length c0_2]) (t := 25) ?hr ?_; (case hd => rfl); (case hg => rfl); (case hr => first | (go_simp; done) | (go_simp; rfl)); intro gb311 hg w7 hbox hb; have n0_ := Aside0.mk (below_step (qB) hb); have n1_ := Aside0.mk (hbox); have n2_ := Aside0.mk ((by rw [hg]; exact (below_size (qB)) : w.heap.size ≤ gb311)); have n3_ := Aside0.mk ((by rw [hg]; exact (below_size (qB)) : w.heap.size ≤ gb311)); clear HB; have HB := n0_; have BK311 := n1_; have GW311 := n2_; have GE311 := n3_; clear n0_ n1_ n2_ n3_; clear hb hbox hg; have hcz8_0 : w7.cell? ⟨gb311, 0, none⟩ = some (.int .i64 a0_0) := (blk_cell BK311.out 0).trans rfl; have hcz8_1 : w7.cell? ⟨gb311, 1, none⟩ = some (.slice A0_1 l0_1.length c0_1) := (blk_cell BK311.out 1).trans rfl; have hcz8_2 : w7.cell? ⟨gb311, 2, none⟩ = some (.slice A0_2 l0_2.length c0_2) := (blk_cell BK311.out 2).trans rfl; have hfz8_0 := blk_frozen BK311.out 0; have hfz8_1 := blk_frozen BK311.out 1; have hfz8_2 := blk_frozen BK311.out 2) | ((with_reducible refine gate_callee (f := 11) rfl ?_); refine goesL_ (some 22) rfl rfl Try.func11 (by kernel_rfl) rfl #[.agg #[.int .i64 a0_0, .slice A0_1 l0_1.length c0_1, .slice A0_2 l0_2.length c0_2], .int .i64 1048576] rfl qG ?_; (with_reducible refine (laws_szCircuit.calls a0_0 _ _ l0_1 _ _ l0_2 1048576 t312 _ ?side1 ?side2 ?side3 ?side4 A5.out).mono ?_); (case side1 => exact qC (Kd.C_below HR0_1.out HB.out)); (case side2 => exact HC0_1.out); (case side3 => exact qC (Kd.C_below HR0_2.out HB.out)); (case side4 => exact HC0_2.out); rintro e w9 ⟨rfl, hb⟩; refine ⟨_, rfl, ?_⟩; have n0_ := Aside0.mk (blk_below (g := gb311) (o := .cells #[.int .i64 a0_0, .slice A0_1 l0_1.length c0_1, .slice A0_2 l0_2.length c0_2] 25 (0, 0)) (qK BK311.out) hb); have n1_ := Aside0.mk (below_step (qB) hb); clear BK311; clear HB; have BK311 := n0_; have HB := n1_; clear n0_ n1_; (try clear hb); (try clear hb2); (try clear hk); (try clear hi)))
      go_ret
      exact ⟨qE, qB⟩
    · rw [if_neg c6] at H
      have c6b0 : decide (t312 < 0) = false := decide_eq_false c6
      clear c6
      replace H := Option.bind_eq_some_iff.mp H
      obtain ⟨⟨t313, t314, t317⟩, A100, H⟩ := H
      replace H : ((laws_toBoolS.f k l1).bind fun t320 => ((spec_AllWires.f k t313 t314 t317 t320).bind fun bt323 => ((laws_toCircuit.f k a0_0 l0_1 l0_2).bind fun bt327 => ((laws_toBoolS.f k l1).bind fun t335 => ((impl_AllWires.f k bt327.1 bt327.2.1 bt327.2.2 t335).bind fun bt338 => ((laws_eqBoolS.f k bt338.1 bt323.1).bind fun t342 => (if t342 = true then (laws_FnExactAllWires.j0 k l1 bt323.1 bt323.2 t335 bt338.1 bt338.2 (bt338.2 != bt323.2) a0_0 l0_1 l0_2 bt327.1 bt327.2.1 bt327.2.2) else (laws_FnExactAllWires.j0 k l1 bt323.1 bt323.2 t335 bt338.1 bt338.2 true a0_0 l0_1 l0_2 bt327.1 bt327.2.1 bt327.2.2)))))))) = some r := H
      have A10 := Aside0.mk A100
      clear A100
      replace H := Option.bind_eq_some_iff.mp H
      obtain ⟨t320, A110, H⟩ := H
      replace H : ((spec_AllWires.f k t313 t314 t317 t320).bind fun bt323 => ((laws_toCircuit.f k a0_0 l0_1 l0_2).bind fun bt327 => ((laws_toBoolS.f k l1).bind fun t335 => ((impl_AllWires.f k bt327.1 bt327.2.1 bt327.2.2 t335).bind fun bt338 => ((laws_eqBoolS.f k bt338.1 bt323.1).bind fun t342 => (if t342 = true then (laws_FnExactAllWires.j0 k l1 bt323.1 bt323.2 t335 bt338.1 bt338.2 (bt338.2 != bt323.2) a0_0 l0_1 l0_2 bt327.1 bt327.2.1 bt327.2.2) else (laws_FnExactAllWires.j0 k l1 bt323.1 bt323.2 t335 bt338.1 bt338.2 true a0_0 l0_1 l0_2 bt327.1 bt327.2.1 bt327.2.2))))))) = some r := H
      have A11 := Aside0.mk A110
      clear A110
      replace H := Option.bind_eq_some_iff.mp H
      obtain ⟨⟨t323, t326⟩, A120, H⟩ := H
      replace H : ((laws_toCircuit.f k a0_0 l0_1 l0_2).bind fun bt327 => ((laws_toBoolS.f k l1).bind fun t335 => ((impl_AllWires.f k bt327.1 bt327.2.1 bt327.2.2 t335).bind fun bt338 => ((laws_eqBoolS.f k bt338.1 t323).bind fun t342 => (if t342 = true then (laws_FnExactAllWires.j0 k l1 t323 t326 t335 bt338.1 bt338.2 (bt338.2 != t326) a0_0 l0_1 l0_2 bt327.1 bt327.2.1 bt327.2.2) else (laws_FnExactAllWires.j0 k l1 t323 t326 t335 bt338.1 bt338.2 true a0_0 l0_1 l0_2 bt327.1 bt327.2.1 bt327.2.2)))))) = some r := H
      have A12 := Aside0.mk A120
      clear A120
      replace H := Option.bind_eq_some_iff.mp H
      obtain ⟨⟨t327, t328, t331⟩, A130, H⟩ := H
      replace H : ((laws_toBoolS.f k l1).bind fun t335 => ((impl_AllWires.f k t327 t328 t331 t335).bind fun bt338 => ((laws_eqBoolS.f k bt338.1 t323).bind fun t342 => (if t342 = true then (laws_FnExactAllWires.j0 k l1 t323 t326 t335 bt338.1 bt338.2 (bt338.2 != t326) a0_0 l0_1 l0_2 t327 t328 t331) else (laws_FnExactAllWires.j0 k l1 t323 t326 t335 bt338.1 bt338.2 true a0_0 l0_1 l0_2 t327 t328 t331))))) = some r := H
      have A13 := Aside0.mk A130
      clear A130
      replace H := Option.bind_eq_some_iff.mp H
      obtain ⟨t335, A140, H⟩ := H
      replace H : ((impl_AllWires.f k t327 t328 t331 t335).bind fun bt338 => ((laws_eqBoolS.f k bt338.1 t323).bind fun t342 => (if t342 = true then (laws_FnExactAllWires.j0 k l1 t323 t326 t335 bt338.1 bt338.2 (bt338.2 != t326) a0_0 l0_1 l0_2 t327 t328 t331) else (laws_FnExactAllWires.j0 k l1 t323 t326 t335 bt338.1 bt338.2 true a0_0 l0_1 l0_2 t327 t328 t331)))) = some r := H
      have A14 := Aside0.mk A140
      clear A140
      obtain rfl : t320 = t335 := Option.some.inj (A11.out.symm.trans A14.out)
      replace H := Option.bind_eq_some_iff.mp H
      obtain ⟨⟨t338, t341⟩, A150, H⟩ := H
      replace H : ((laws_eqBoolS.f k t338 t323).bind fun t342 => (if t342 = true then (laws_FnExactAllWires.j0 k l1 t323 t326 t320 t338 t341 (t341 != t326) a0_0 l0_1 l0_2 t327 t328 t331) else (laws_FnExactAllWires.j0 k l1 t323 t326 t320 t338 t341 true a0_0 l0_1 l0_2 t327 t328 t331))) = some r := H
      have A15 := Aside0.mk A150
      clear A150
      have HC16 := Aside0.mk H
      clear H
      go_enter Try.func4, Try.ntmps4
      go_upto_region 11 with (first | ((with_reducible refine gate_dst (N := 2) rfl ?_); refine box_event ?hg (N := 2) ?hd (cs := #[.int .i64 a0_0, .slice A0_1 l0_1.length c0_1, .slice A0_2 l0_2.length c0_2]) (t := 25) ?hr ?_; (case hd => rfl); (case hg => rfl); (case hr => first | (go_simp; done) | (go_simp; rfl)); intro gb311 hg w17 hbox hb; have n0_ := Aside0.mk (below_step (qB) hb); have n1_ := Aside0.mk (hbox); have n2_ := Aside0.mk ((by rw [hg]; exact (below_size (qB)) : w.heap.size ≤ gb311)); have n3_ := Aside0.mk ((by rw [hg]; exact (below_size (qB)) : w.heap.size ≤ gb311)); clear HB; have HB := n0_; have BK311 := n1_; have GW311 := n2_; have GE311 := n3_; clear n0_ n1_ n2_ n3_; clear hb hbox hg; have hcz18_0 : w17.cell? ⟨gb311, 0, none⟩ = some (.int .i64 a0_0) := (blk_cell BK311.out 0).trans rfl; have hcz18_1 : w17.cell? ⟨gb311, 1, none⟩ = some (.slice A0_1 l0_1.length c0_1) := (blk_cell BK311.out 1).trans rfl; have hcz18_2 : w17.cell? ⟨gb311, 2, none⟩ = some (.slice A0_2 l0_2.length c0_2) := (blk_cell BK311.out 2).trans rfl; have hfz18_0 := blk_frozen BK311.out 0; have hfz18_1 := blk_frozen BK311.out 1; have hfz18_2 := blk_frozen BK311.out 2) | ((with_reducible refine gate_callee (f := 11) rfl ?_); refine goesL_ (some 22) rfl rfl Try.func11 (by kernel_rfl) rfl #[.agg #[.int .i64 a0_0, .slice A0_1 l0_1.length c0_1, .slice A0_2 l0_2.length c0_2], .int .i64 1048576] rfl qG ?_; (with_reducible refine (laws_szCircuit.calls a0_0 _ _ l0_1 _ _ l0_2 1048576 t312 _ ?side1 ?side2 ?side3 ?side4 A5.out).mono ?_); (case side1 => exact qC (Kd.C_below HR0_1.out HB.out)); (case side2 => exact HC0_1.out); (case side3 => exact qC (Kd.C_below HR0_2.out HB.out)); (case side4 => exact HC0_2.out); rintro e w19 ⟨rfl, hb⟩; refine ⟨_, rfl, ?_⟩; have n0_ := Aside0.mk (blk_below (g := gb311) (o := .cells #[.int .i64 a0_0, .slice A0_1 l0_1.length c0_1, .slice A0_2 l0_2.length c0_2] 25 (0, 0)) (qK BK311.out) hb); have n1_ := Aside0.mk (below_step (qB) hb); clear BK311; clear HB; have BK311 := n0_; have HB := n1_; clear n0_ n1_; (try clear hb); (try clear hb2); (try clear hk); (try clear hi); have hcz20_0 : w19.cell? ⟨gb311, 0, none⟩ = some (.int .i64 a0_0) := (blk_cell BK311.out 0).trans rfl; have hcz20_1 : w19.cell? ⟨gb311, 1, none⟩ = some (.slice A0_1 l0_1.length c0_1) := (blk_cell BK311.out 1).trans rfl; have hcz20_2 : w19.cell? ⟨gb311, 2, none⟩ = some (.slice A0_2 l0_2.length c0_2) := (blk_cell BK311.out 2).trans rfl; have hfz20_0 := blk_frozen BK311.out 0; have hfz20_1 := blk_frozen BK311.out 1; have hfz20_2 := blk_frozen BK311.out 2) | ((with_reducible refine gate_callee (f := 13) rfl ?_); refine goesL_ (some 27) rfl rfl Try.func13 (by kernel_rfl) rfl #[.agg #[.int .i64 a0_0, .slice A0_1 l0_1.length c0_1, .slice A0_2 l0_2.length c0_2]] rfl qG ?_; (with_reducible refine (laws_toCircuit.calls k a0_0 _ _ l0_1 _ _ l0_2 t313 t314 t317 _ ?side1 ?side2 ?side3 ?side4 A10.out).mono ?_); (case side1 => exact qC (Kd.C_below HR0_1.out HB.out)); (case side2 => exact HC0_1.out); (case side3 => exact qC (Kd.C_below HR0_2.out HB.out)); (case side4 => exact HC0_2.out); rintro e w21 ⟨v315, v318, rfl, ho0, ho1, hb⟩; refine ⟨_, rfl, ?_⟩; have n0_ := Aside0.mk (Kd.R_lower ho0 (below_size (qB))); have n1_ := Aside0.mk (Kd.R_lower ho1 (below_size (qB))); have n2_ := Aside0.mk (blk_below (g := gb311) (o := .cells #[.int .i64 a0_0, .slice A0_1 l0_1.length c0_1, .slice A0_2 l0_2.length c0_2] 25 (0, 0)) (qK BK311.out) hb); have n3_ := Aside0.mk (below_step (qB) hb); clear BK311; clear HB; have HO316 := n0_; have HO319 := n1_; have BK311 := n2_; have HB := n3_; clear n0_ n1_ n2_ n3_; (try clear hb); (try clear hb2); (try clear hk); (try clear hi); (try clear ho0); (try clear ho1)) | ((with_reducible refine gate_callee (f := 17) rfl ?_); refine goesL_ (some 29) rfl rfl Try.func17 (by kernel_rfl) rfl #[.slice A1 l1.length c1] rfl qG ?_; (with_reducible refine (laws_toBoolS.calls k _ _ l1 t320 _ ?side1 ?side2 A11.out).mono ?_); (case side1 => exact qC (Kd.C_below HR1.out HB.out)); (case side2 => exact HC1.out); rintro e w22 ⟨v321, rfl, ho0, hb⟩; refine ⟨_, rfl, ?_⟩; have n0_ := Aside0.mk (Kd.R_below (qR HO316.out) hb); have n1_ := Aside0.mk (Kd.R_below (qR HO319.out) hb); have n2_ := Aside0.mk (Kd.R_lower ho0 (below_size (qB))); have n3_ := Aside0.mk (blk_below (g := gb311) (o := .cells #[.int .i64 a0_0, .slice A0_1 l0_1.length c0_1, .slice A0_2 l0_2.length c0_2] 25 (0, 0)) (qK BK311.out) hb); have n4_ := Aside0.mk (below_step (qB) hb); clear HO316; clear HO319; clear BK311; clear HB; have HO316 := n0_; have HO319 := n1_; have HO322 := n2_; have BK311 := n3_; have HB := n4_; clear n0_ n1_ n2_ n3_ n4_; (try clear hb); (try clear hb2); (try clear hk); (try clear hi); (try clear ho0); obtain ⟨Ao23, co23, eo23⟩ := Kd.R_slice HO316.out; subst eo23; obtain ⟨Ao24, co24, eo24⟩ := Kd.R_slice HO319.out; subst eo24; obtain ⟨Ao25, co25, eo25⟩ := Kd.R_slice HO322.out; subst eo25) | ((with_reducible refine gate_callee (f := 16) rfl ?_); refine goesL_ (some 30) rfl rfl Try.func16 (by kernel_rfl) rfl #[.agg #[.int .i64 t313, .slice Ao23 t314.length co23, .slice Ao24 t317.length co24], .slice Ao25 t320.length co25] rfl qG ?_; (with_reducible refine (spec_AllWires.calls k t313 _ _ t314 _ _ t317 _ _ t320 t323 t326 _ ?side1 ?side2 ?side3 ?side4 ?side5 ?side6 A12.out).mono ?_); (case side1 => repeat (first | exact (Kd.R_reads' HO316.out).2.2 | (with_reducible refine Kd.C_alloc ?_ _) | (with_reducible refine Kd.C_drewN ?_ _) | (with_reducible refine Kd.C_drew ?_))); (case side2 => exact (Kd.R_reads' HO316.out).2.1); (case side3 => repeat (first | exact (Kd.R_reads' HO319.out).2.2 | (with_reducible refine Kd.C_alloc ?_ _) | (with_reducible refine Kd.C_drewN ?_ _) | (with_reducible refine Kd.C_drew ?_))); (case side4 => exact (Kd.R_reads' HO319.out).2.1); (case side5 => repeat (first | exact (Kd.R_reads' HO322.out).2.2 | (with_reducible refine Kd.C_alloc ?_ _) | (with_reducible refine Kd.C_drewN ?_ _) | (with_reducible refine Kd.C_drew ?_))); (case side6 => exact (Kd.R_reads' HO322.out).2.1); rintro e w26 ⟨v324, rfl, ho0, hb⟩; refine ⟨_, rfl, ?_⟩; have n0_ := Aside0.mk (Kd.R_below (qR HO316.out) hb); have n1_ := Aside0.mk (Kd.R_below (qR HO319.out) hb); have n2_ := Aside0.mk (Kd.R_elder' (qR HO322.out) (Kd.R_base ho0) hb); have n3_ := Aside0.mk (Kd.R_lower (Kd.R_new' ho0 (Kd.R_lt (qR HO322.out))) (below_size (qB))); have n4_ := Aside0.mk (blk_below (g := gb311) (o := .cells #[.int .i64 a0_0, .slice A0_1 l0_1.length c0_1, .slice A0_2 l0_2.length c0_2] 25 (0, 0)) (qK BK311.out) hb); have n5_ := Aside0.mk (below_step (qB) hb); clear HO316; clear HO319; clear HO322; clear BK311; clear HB; have HO316 := n0_; have HO319 := n1_; have HO322 := n2_; have HO325 := n3_; have BK311 := n4_; have HB := n5_; clear n0_ n1_ n2_ n3_ n4_ n5_; (try clear hb); (try clear hb2); (try clear hk); (try clear hi); (try clear ho0); have hcz27_0 : w26.cell? ⟨gb311, 0, none⟩ = some (.int .i64 a0_0) := (blk_cell BK311.out 0).trans rfl; have hcz27_1 : w26.cell? ⟨gb311, 1, none⟩ = some (.slice A0_1 l0_1.length c0_1) := (blk_cell BK311.out 1).trans rfl; have hcz27_2 : w26.cell? ⟨gb311, 2, none⟩ = some (.slice A0_2 l0_2.length c0_2) := (blk_cell BK311.out 2).trans rfl; have hfz27_0 := blk_frozen BK311.out 0; have hfz27_1 := blk_frozen BK311.out 1; have hfz27_2 := blk_frozen BK311.out 2) | ((with_reducible refine gate_callee (f := 13) rfl ?_); refine goesL_ (some 34) rfl rfl Try.func13 (by kernel_rfl) rfl #[.agg #[.int .i64 a0_0, .slice A0_1 l0_1.length c0_1, .slice A0_2 l0_2.length c0_2]] rfl qG ?_; (with_reducible refine (laws_toCircuit.calls k a0_0 _ _ l0_1 _ _ l0_2 t327 t328 t331 _ ?side1 ?side2 ?side3 ?side4 A13.out).mono ?_); (case side1 => exact qC (Kd.C_below HR0_1.out HB.out)); (case side2 => exact HC0_1.out); (case side3 => exact qC (Kd.C_below HR0_2.out HB.out)); (case side4 => exact HC0_2.out); rintro e w28 ⟨v329, v332, rfl, ho0, ho1, hb⟩; refine ⟨_, rfl, ?_⟩; have n0_ := Aside0.mk (Kd.R_elder' (qR HO316.out) (Kd.R_base ho0) hb); have n1_ := Aside0.mk (Kd.R_elder' (qR HO319.out) (Kd.R_base ho1) hb); have n2_ := Aside0.mk (Kd.R_below (qR HO322.out) hb); have n3_ := Aside0.mk (Kd.R_below (qR HO325.out) hb); have n4_ := Aside0.mk (Kd.R_lower (Kd.R_new' ho0 (Kd.R_lt (qR HO316.out))) (below_size (qB))); have n5_ := Aside0.mk (Kd.R_lower (Kd.R_new' ho1 (Kd.R_lt (qR HO319.out))) (below_size (qB))); have n6_ := Aside0.mk (blk_below (g := gb311) (o := .cells #[.int .i64 a0_0, .slice A0_1 l0_1.length c0_1, .slice A0_2 l0_2.length c0_2] 25 (0, 0)) (qK BK311.out) hb); have n7_ := Aside0.mk (below_step (qB) hb); clear HO316; clear HO319; clear HO322; clear HO325; clear BK311; clear HB; have HO316 := n0_; have HO319 := n1_; have HO322 := n2_; have HO325 := n3_; have HO330 := n4_; have HO333 := n5_; have BK311 := n6_; have HB := n7_; clear n0_ n1_ n2_ n3_ n4_ n5_ n6_ n7_; (try clear hb); (try clear hb2); (try clear hk); (try clear hi); (try clear ho0); (try clear ho1)) | ((with_reducible refine gate_dst (N := 8) rfl ?_); refine box_event ?hg (N := 8) ?hd (cs := #[.int .i64 0, .slice none 0 0, .slice none 0 0]) (t := 30) ?hr ?_; (case hd => rfl); (case hg => rfl); (case hr => first | (go_simp; done) | (go_simp; rfl)); intro gb334 hg w29 hbox hb; have n0_ := Aside0.mk (Kd.R_below (qR HO316.out) hb); have n1_ := Aside0.mk (Kd.R_below (qR HO319.out) hb); have n2_ := Aside0.mk (Kd.R_below (qR HO322.out) hb); have n3_ := Aside0.mk (Kd.R_below (qR HO325.out) hb); have n4_ := Aside0.mk (Kd.R_below (qR HO330.out) hb); have n5_ := Aside0.mk (Kd.R_below (qR HO333.out) hb); have n6_ := Aside0.mk (blk_below (g := gb311) (o := .cells #[.int .i64 a0_0, .slice A0_1 l0_1.length c0_1, .slice A0_2 l0_2.length c0_2] 25 (0, 0)) (qK BK311.out) hb); have n7_ := Aside0.mk (below_step (qB) hb); have n8_ := Aside0.mk (hbox); have n9_ := Aside0.mk ((by rw [hg]; exact (below_size (qB)) : w.heap.size ≤ gb334)); have n10_ := Aside0.mk ((by rw [hg]; exact (below_size (qB)) : w.heap.size ≤ gb334)); have n11_ := Aside0.mk ((by rw [hg]; exact Nat.ne_of_lt (blk_lt (g := gb311) (o := .cells #[.int .i64 a0_0, .slice A0_1 l0_1.length c0_1, .slice A0_2 l0_2.length c0_2] 25 (0, 0)) (qK BK311.out)) : gb311 ≠ gb334)); have n12_ := Aside0.mk ((by rw [hg]; exact Nat.ne_of_gt (blk_lt (g := gb311) (o := .cells #[.int .i64 a0_0, .slice A0_1 l0_1.length c0_1, .slice A0_2 l0_2.length c0_2] 25 (0, 0)) (qK BK311.out)) : gb334 ≠ gb311)); clear HO316; clear HO319; clear HO322; clear HO325; clear HO330; clear HO333; clear BK311; clear HB; have HO316 := n0_; have HO319 := n1_; have HO322 := n2_; have HO325 := n3_; have HO330 := n4_; have HO333 := n5_; have BK311 := n6_; have HB := n7_; have BK334 := n8_; have GW334 := n9_; have GE334 := n10_; have NB311_334 := n11_; have NB334_311 := n12_; clear n0_ n1_ n2_ n3_ n4_ n5_ n6_ n7_ n8_ n9_ n10_ n11_ n12_; clear hb hbox hg; have hnb30 := NB334_311.out; have hnc30 := NB311_334.out; have hcz31_0 : w29.cell? ⟨gb334, 0, none⟩ = some (.int .i64 0) := (blk_cell BK334.out 0).trans rfl; have hcz31_1 : w29.cell? ⟨gb334, 1, none⟩ = some (.slice none 0 0) := (blk_cell BK334.out 1).trans rfl; have hcz31_2 : w29.cell? ⟨gb334, 2, none⟩ = some (.slice none 0 0) := (blk_cell BK334.out 2).trans rfl; have hfz31_0 := blk_frozen BK334.out 0; have hfz31_1 := blk_frozen BK334.out 1; have hfz31_2 := blk_frozen BK334.out 2; obtain ⟨Ao32, co32, eo32⟩ := Kd.R_slice HO330.out; subst eo32; obtain ⟨Ao33, co33, eo33⟩ := Kd.R_slice HO333.out; subst eo33) | ((with_reducible refine gate_callee (f := 17) rfl ?_); refine goesL_ (some 36) rfl rfl Try.func17 (by kernel_rfl) rfl #[.slice A1 l1.length c1] rfl qG ?_; (with_reducible refine (laws_toBoolS.calls k _ _ l1 t320 _ ?side1 ?side2 A14.out).mono ?_); (case side1 => exact Kd.C_below HR1.out (qB)); (case side2 => exact HC1.out); rintro e w34 ⟨v336, rfl, ho0, hb⟩; refine ⟨_, rfl, ?_⟩; have n0_ := Aside0.mk (Kd.R_below (by (with_reducible repeat (first | apply Kd.R_alloc | apply Kd.R_drewN | apply Kd.R_drew)); exact (Kd.R_mono (Kd.R_far (p := ⟨gb334, 2, none⟩) (Kd.R_far (p := ⟨gb334, 1, none⟩) (Kd.R_far (p := ⟨gb334, 0, none⟩) (Kd.R_types HO316.out BK334.out (by decide)) (fun _ hk => hk.2) (.int .i64 t327)) (fun _ hk => hk.2) (.slice Ao32 t328.length co32)) (fun _ hk => hk.2) (.slice Ao33 t331.length co33)) (fun _ h_ => h_.1))) hb); have n1_ := Aside0.mk (Kd.R_below (by (with_reducible repeat (first | apply Kd.R_alloc | apply Kd.R_drewN | apply Kd.R_drew)); exact (Kd.R_mono (Kd.R_far (p := ⟨gb334, 2, none⟩) (Kd.R_far (p := ⟨gb334, 1, none⟩) (Kd.R_far (p := ⟨gb334, 0, none⟩) (Kd.R_types HO319.out BK334.out (by decide)) (fun _ hk => hk.2) (.int .i64 t327)) (fun _ hk => hk.2) (.slice Ao32 t328.length co32)) (fun _ hk => hk.2) (.slice Ao33 t331.length co33)) (fun _ h_ => h_.1))) hb); have n2_ := Aside0.mk (Kd.R_elder' (by (with_reducible repeat (first | apply Kd.R_alloc | apply Kd.R_drewN | apply Kd.R_drew)); exact (Kd.R_mono (Kd.R_far (p := ⟨gb334, 2, none⟩) (Kd.R_far (p := ⟨gb334, 1, none⟩) (Kd.R_far (p := ⟨gb334, 0, none⟩) (Kd.R_types HO322.out BK334.out (by decide)) (fun _ hk => hk.2) (.int .i64 t327)) (fun _ hk => hk.2) (.slice Ao32 t328.length co32)) (fun _ hk => hk.2) (.slice Ao33 t331.length co33)) (fun _ h_ => h_.1))) (Kd.R_base ho0) hb); have n3_ := Aside0.mk (Kd.R_elder' (by (with_reducible repeat (first | apply Kd.R_alloc | apply Kd.R_drewN | apply Kd.R_drew)); exact (Kd.R_mono (Kd.R_far (p := ⟨gb334, 2, none⟩) (Kd.R_far (p := ⟨gb334, 1, none⟩) (Kd.R_far (p := ⟨gb334, 0, none⟩) (Kd.R_types HO325.out BK334.out (by decide)) (fun _ hk => hk.2) (.int .i64 t327)) (fun _ hk => hk.2) (.slice Ao32 t328.length co32)) (fun _ hk => hk.2) (.slice Ao33 t331.length co33)) (fun _ h_ => h_.1))) (Kd.R_base ho0) hb); have n4_ := Aside0.mk (Kd.R_below (by (with_reducible repeat (first | apply Kd.R_alloc | apply Kd.R_drewN | apply Kd.R_drew)); exact (Kd.R_mono (Kd.R_far (p := ⟨gb334, 2, none⟩) (Kd.R_far (p := ⟨gb334, 1, none⟩) (Kd.R_far (p := ⟨gb334, 0, none⟩) (Kd.R_types HO330.out BK334.out (by decide)) (fun _ hk => hk.2) (.int .i64 t327)) (fun _ hk => hk.2) (.slice Ao32 t328.length co32)) (fun _ hk => hk.2) (.slice Ao33 t331.length co33)) (fun _ h_ => h_.1))) hb); have n5_ := Aside0.mk (Kd.R_below (by (with_reducible repeat (first | apply Kd.R_alloc | apply Kd.R_drewN | apply Kd.R_drew)); exact (Kd.R_mono (Kd.R_far (p := ⟨gb334, 2, none⟩) (Kd.R_far (p := ⟨gb334, 1, none⟩) (Kd.R_far (p := ⟨gb334, 0, none⟩) (Kd.R_types HO333.out BK334.out (by decide)) (fun _ hk => hk.2) (.int .i64 t327)) (fun _ hk => hk.2) (.slice Ao32 t328.length co32)) (fun _ hk => hk.2) (.slice Ao33 t331.length co33)) (fun _ h_ => h_.1))) hb); have n6_ := Aside0.mk (Kd.R_lower (Kd.R_new' (Kd.R_new' ho0 (Kd.R_lt (by (with_reducible repeat (first | apply Kd.R_alloc | apply Kd.R_drewN | apply Kd.R_drew)); exact (Kd.R_mono (Kd.R_far (p := ⟨gb334, 2, none⟩) (Kd.R_far (p := ⟨gb334, 1, none⟩) (Kd.R_far (p := ⟨gb334, 0, none⟩) (Kd.R_types HO322.out BK334.out (by decide)) (fun _ hk => hk.2) (.int .i64 t327)) (fun _ hk => hk.2) (.slice Ao32 t328.length co32)) (fun _ hk => hk.2) (.slice Ao33 t331.length co33)) (fun _ h_ => h_.1))))) (Kd.R_lt (by (with_reducible repeat (first | apply Kd.R_alloc | apply Kd.R_drewN | apply Kd.R_drew)); exact (Kd.R_mono (Kd.R_far (p := ⟨gb334, 2, none⟩) (Kd.R_far (p := ⟨gb334, 1, none⟩) (Kd.R_far (p := ⟨gb334, 0, none⟩) (Kd.R_types HO325.out BK334.out (by decide)) (fun _ hk => hk.2) (.int .i64 t327)) (fun _ hk => hk.2) (.slice Ao32 t328.length co32)) (fun _ hk => hk.2) (.slice Ao33 t331.length co33)) (fun _ h_ => h_.1))))) (below_size (qB))); have n7_ := Aside0.mk (blk_below (g := gb311) (o := .cells #[.int .i64 a0_0, .slice A0_1 l0_1.length c0_1, .slice A0_2 l0_2.length c0_2] 25 (0, 0)) (qF BK311.out) hb); have n8_ := Aside0.mk (blk_below (g := gb334) (o := .cells #[.int .i64 t327, .slice Ao32 t328.length co32, .slice Ao33 t331.length co33] 30 (0, 0)) (by (with_reducible repeat (first | refine blk_drewN ?_ _ | refine blk_drew ?_ | refine blk_alloc ?_ _)); refine blk_put (cs := #[.int .i64 t327, .slice Ao32 t328.length co32, .slice none 0 0]) ?_ 2 _ rfl; (with_reducible repeat (first | refine blk_drewN ?_ _ | refine blk_drew ?_ | refine blk_alloc ?_ _)); refine blk_put (cs := #[.int .i64 t327, .slice none 0 0, .slice none 0 0]) ?_ 1 _ rfl; (with_reducible repeat (first | refine blk_drewN ?_ _ | refine blk_drew ?_ | refine blk_alloc ?_ _)); refine blk_put (cs := #[.int .i64 0, .slice none 0 0, .slice none 0 0]) ?_ 0 _ rfl; (with_reducible repeat (first | refine blk_drewN ?_ _ | refine blk_drew ?_ | refine blk_alloc ?_ _)); exact BK334.out) hb); have n9_ := Aside0.mk (below_step (qB) hb); clear HO316; clear HO319; clear HO322; clear HO325; clear HO330; clear HO333; clear BK311; clear BK334; clear HB; have HO316 := n0_; have HO319 := n1_; have HO322 := n2_; have HO325 := n3_; have HO330 := n4_; have HO333 := n5_; have HO337 := n6_; have BK311 := n7_; have BK334 := n8_; have HB := n9_; clear n0_ n1_ n2_ n3_ n4_ n5_ n6_ n7_ n8_ n9_; (try clear hb); (try clear hb2); (try clear hk); (try clear hi); (try clear ho0); have hcz35_0 : w34.cell? ⟨gb334, 0, none⟩ = some (.int .i64 t327) := (blk_cell BK334.out 0).trans rfl; have hcz35_1 : w34.cell? ⟨gb334, 1, none⟩ = some (.slice Ao32 t328.length co32) := (blk_cell BK334.out 1).trans rfl; have hcz35_2 : w34.cell? ⟨gb334, 2, none⟩ = some (.slice Ao33 t331.length co33) := (blk_cell BK334.out 2).trans rfl; have hfz35_0 := blk_frozen BK334.out 0; have hfz35_1 := blk_frozen BK334.out 1; have hfz35_2 := blk_frozen BK334.out 2; obtain ⟨Ao36, co36, eo36⟩ := Kd.R_slice HO337.out; subst eo36) | ((with_reducible refine gate_callee (f := 18) rfl ?_); refine goesL_ (some 40) rfl rfl Try.func18 (by kernel_rfl) rfl #[.agg #[.int .i64 t327, .slice Ao32 t328.length co32, .slice Ao33 t331.length co33], .slice Ao36 t320.length co36] rfl qG ?_; (with_reducible refine (impl_AllWires.calls k t327 _ _ t328 _ _ t331 _ _ t320 t338 t341 _ ?side1 ?side2 ?side3 ?side4 ?side5 ?side6 A15.out).mono ?_); (case side1 => repeat (first | exact (Kd.R_reads' HO330.out).2.2 | (with_reducible refine Kd.C_alloc ?_ _) | (with_reducible refine Kd.C_drewN ?_ _) | (with_reducible refine Kd.C_drew ?_))); (case side2 => exact (Kd.R_reads' HO330.out).2.1); (case side3 => repeat (first | exact (Kd.R_reads' HO333.out).2.2 | (with_reducible refine Kd.C_alloc ?_ _) | (with_reducible refine Kd.C_drewN ?_ _) | (with_reducible refine Kd.C_drew ?_))); (case side4 => exact (Kd.R_reads' HO333.out).2.1); (case side5 => repeat (first | exact (Kd.R_reads' HO337.out).2.2 | (with_reducible refine Kd.C_alloc ?_ _) | (with_reducible refine Kd.C_drewN ?_ _) | (with_reducible refine Kd.C_drew ?_))); (case side6 => exact (Kd.R_reads' HO337.out).2.1); rintro e w37 ⟨v339, rfl, ho0, hb⟩; refine ⟨_, rfl, ?_⟩; have n0_ := Aside0.mk (Kd.R_below (qR HO316.out) hb); have n1_ := Aside0.mk (Kd.R_below (qR HO319.out) hb); have n2_ := Aside0.mk (Kd.R_elder' (qR HO322.out) (Kd.R_base ho0) hb); have n3_ := Aside0.mk (Kd.R_elder' (qR HO325.out) (Kd.R_base ho0) hb); have n4_ := Aside0.mk (Kd.R_below (qR HO330.out) hb); have n5_ := Aside0.mk (Kd.R_below (qR HO333.out) hb); have n6_ := Aside0.mk (Kd.R_elder' (qR HO337.out) (Kd.R_base ho0) hb); have n7_ := Aside0.mk (Kd.R_lower (Kd.R_new' (Kd.R_new' (Kd.R_new' ho0 (Kd.R_lt (qR HO322.out))) (Kd.R_lt (qR HO325.out))) (Kd.R_lt (qR HO337.out))) (below_size (qB))); have n8_ := Aside0.mk (blk_below (g := gb311) (o := .cells #[.int .i64 a0_0, .slice A0_1 l0_1.length c0_1, .slice A0_2 l0_2.length c0_2] 25 (0, 0)) (qK BK311.out) hb); have n9_ := Aside0.mk (blk_below (g := gb334) (o := .cells #[.int .i64 t327, .slice Ao32 t328.length co32, .slice Ao33 t331.length co33] 30 (0, 0)) (qK BK334.out) hb); have n10_ := Aside0.mk (below_step (qB) hb); clear HO316; clear HO319; clear HO322; clear HO325; clear HO330; clear HO333; clear HO337; clear BK311; clear BK334; clear HB; have HO316 := n0_; have HO319 := n1_; have HO322 := n2_; have HO325 := n3_; have HO330 := n4_; have HO333 := n5_; have HO337 := n6_; have HO340 := n7_; have BK311 := n8_; have BK334 := n9_; have HB := n10_; clear n0_ n1_ n2_ n3_ n4_ n5_ n6_ n7_ n8_ n9_ n10_; (try clear hb); (try clear hb2); (try clear hk); (try clear hi); (try clear ho0)))
      (try simp only [Act.put, List.setIfInBounds_toArray, List.set_cons_zero, List.set_cons_succ])
      go_cut [51] (fun v51 wc => ∃ (kq : Nat) (x51_15 : Bool), v51 = .bool x51_15 ∧ Aside0 (laws_FnExactAllWires.j0 kq l1 t323 t326 t320 t338 t341 x51_15 a0_0 l0_1 l0_2 t327 t328 t331 = some r) ∧ Aside0 (kq ≤ k) ∧ Aside0 (Kd.R Kd.bool 4 wc w.heap.size (fun k_ => some k_ ≠ ((.slice Ao36 t320.length co36) : Value).ownBlock ∧ some k_ ≠ (v339 : Value).ownBlock) v324 t323) ∧ Aside0 (Kd.R Kd.bool 4 wc w.heap.size (fun k_ => some k_ ≠ (v324 : Value).ownBlock ∧ some k_ ≠ (v339 : Value).ownBlock) (.slice Ao36 t320.length co36) t320) ∧ Aside0 (Kd.R Kd.bool 4 wc w.heap.size (fun k_ => some k_ ≠ (v324 : Value).ownBlock ∧ some k_ ≠ ((.slice Ao36 t320.length co36) : Value).ownBlock) v339 t338) ∧ Aside0 (Kd.R k59 59 wc w.heap.size (fun _ => True) (.slice Ao32 t328.length co32) t328) ∧ Aside0 (Kd.R (Kd.int .i64) 3 wc w.heap.size (fun _ => True) (.slice Ao33 t331.length co33) t331) ∧ Aside0 (wc.heap[gb311]? = some (.cells #[.int .i64 a0_0, (.slice A0_1 l0_1.length c0_1), (.slice A0_2 l0_2.length c0_2)] 25 (0, 0))) ∧ Aside0 (wc.heap[gb334]? = some (.cells #[.int .i64 t327, (.slice Ao32 t328.length co32), (.slice Ao33 t331.length co33)] 30 (0, 0))) ∧ Aside0 (Below w.heap.size w wc))
      case first =>
        have H := HC16.out
        clear HC16
        replace H := Option.bind_eq_some_iff.mp H
        obtain ⟨t342, A380, H⟩ := H
        replace H : (if t342 = true then (laws_FnExactAllWires.j0 k l1 t323 t326 t320 t338 t341 (t341 != t326) a0_0 l0_1 l0_2 t327 t328 t331) else (laws_FnExactAllWires.j0 k l1 t323 t326 t320 t338 t341 true a0_0 l0_1 l0_2 t327 t328 t331)) = some r := H
        have A38 := Aside0.mk A380
        clear A380
        by_cases c39 : t342 = true
        · subst c39
          have H1 : (laws_FnExactAllWires.j0 k l1 t323 t326 t320 t338 t341 (t341 != t326) a0_0 l0_1 l0_2 t327 t328 t331) = some r := by rw [if_pos rfl] at H; exact H
          clear H
          have H := H1
          clear H1
          have H' := Aside0.mk H
          clear H
          obtain ⟨Ao40, co40, eo40⟩ := Kd.R_slice HO340.out
          subst eo40
          obtain ⟨Ao41, co41, eo41⟩ := Kd.R_slice HO325.out
          subst eo41
          go_wp2_with (first | ((with_reducible refine gate_callee (f := 19) rfl ?_); refine goesL_ (some 45) rfl rfl Try.func19 (by kernel_rfl) rfl #[.slice Ao40 t338.length co40, .slice Ao41 t323.length co41] rfl qG ?_; (with_reducible refine (laws_eqBoolS.calls k _ _ t338 _ _ t323 true _ ?side1 ?side2 ?side3 ?side4 A38.out).mono ?_); (case side1 => repeat (first | exact (Kd.R_reads' HO340.out).2.2 | (with_reducible refine Kd.C_alloc ?_ _) | (with_reducible refine Kd.C_drewN ?_ _) | (with_reducible refine Kd.C_drew ?_))); (case side2 => exact (Kd.R_reads' HO340.out).2.1); (case side3 => repeat (first | exact (Kd.R_reads' HO325.out).2.2 | (with_reducible refine Kd.C_alloc ?_ _) | (with_reducible refine Kd.C_drewN ?_ _) | (with_reducible refine Kd.C_drew ?_))); (case side4 => exact (Kd.R_reads' HO325.out).2.1); rintro e w' ⟨rfl, ⟨nd, rfl⟩⟩; refine ⟨_, rfl, ?_⟩))
          go_meet
          case rel => exact ⟨_, ((t341 != t326)), qS, H', ⟨by first | omega | exact Nat.le_refl _⟩, ⟨by (with_reducible repeat (first | apply Kd.R_alloc | apply Kd.R_drewN | apply Kd.R_drew)); exact Kd.R_mono HO325.out (fun _ hk => ⟨hk.1.2, hk.2⟩)⟩, ⟨by (with_reducible repeat (first | apply Kd.R_alloc | apply Kd.R_drewN | apply Kd.R_drew)); exact Kd.R_mono HO337.out (fun _ hk => ⟨hk.1.2, hk.2⟩)⟩, ⟨by (with_reducible repeat (first | apply Kd.R_alloc | apply Kd.R_drewN | apply Kd.R_drew)); exact Kd.R_mono HO340.out (fun _ hk => ⟨hk.1.2, hk.2⟩)⟩, ⟨by (with_reducible repeat (first | apply Kd.R_alloc | apply Kd.R_drewN | apply Kd.R_drew)); exact Kd.R_mono HO330.out (fun _ hk => trivial)⟩, ⟨by (with_reducible repeat (first | apply Kd.R_alloc | apply Kd.R_drewN | apply Kd.R_drew)); exact Kd.R_mono HO333.out (fun _ hk => trivial)⟩, ⟨by (with_reducible repeat (first | refine blk_drewN ?_ _ | refine blk_drew ?_ | refine blk_alloc ?_ _)); exact BK311.out⟩, ⟨by (with_reducible repeat (first | refine blk_drewN ?_ _ | refine blk_drew ?_ | refine blk_alloc ?_ _)); exact BK334.out⟩, ⟨qB⟩⟩
        · replace c39 := Bool.eq_false_iff.mpr c39
          subst c39
          have H1 : (laws_FnExactAllWires.j0 k l1 t323 t326 t320 t338 t341 true a0_0 l0_1 l0_2 t327 t328 t331) = some r := by rw [if_neg (show ¬ (false = true) by decide)] at H; exact H
          clear H
          have H := H1
          clear H1
          have H' := Aside0.mk H
          clear H
          obtain ⟨Ao42, co42, eo42⟩ := Kd.R_slice HO340.out
          subst eo42
          obtain ⟨Ao43, co43, eo43⟩ := Kd.R_slice HO325.out
          subst eo43
          go_wp2_with (first | ((with_reducible refine gate_callee (f := 19) rfl ?_); refine goesL_ (some 45) rfl rfl Try.func19 (by kernel_rfl) rfl #[.slice Ao42 t338.length co42, .slice Ao43 t323.length co43] rfl qG ?_; (with_reducible refine (laws_eqBoolS.calls k _ _ t338 _ _ t323 false _ ?side1 ?side2 ?side3 ?side4 A38.out).mono ?_); (case side1 => repeat (first | exact (Kd.R_reads' HO340.out).2.2 | (with_reducible refine Kd.C_alloc ?_ _) | (with_reducible refine Kd.C_drewN ?_ _) | (with_reducible refine Kd.C_drew ?_))); (case side2 => exact (Kd.R_reads' HO340.out).2.1); (case side3 => repeat (first | exact (Kd.R_reads' HO325.out).2.2 | (with_reducible refine Kd.C_alloc ?_ _) | (with_reducible refine Kd.C_drewN ?_ _) | (with_reducible refine Kd.C_drew ?_))); (case side4 => exact (Kd.R_reads' HO325.out).2.1); rintro e w' ⟨rfl, ⟨nd, rfl⟩⟩; refine ⟨_, rfl, ?_⟩))
          go_meet
          case rel => exact ⟨_, (true), qS, H', ⟨by first | omega | exact Nat.le_refl _⟩, ⟨by (with_reducible repeat (first | apply Kd.R_alloc | apply Kd.R_drewN | apply Kd.R_drew)); exact Kd.R_mono HO325.out (fun _ hk => ⟨hk.1.2, hk.2⟩)⟩, ⟨by (with_reducible repeat (first | apply Kd.R_alloc | apply Kd.R_drewN | apply Kd.R_drew)); exact Kd.R_mono HO337.out (fun _ hk => ⟨hk.1.2, hk.2⟩)⟩, ⟨by (with_reducible repeat (first | apply Kd.R_alloc | apply Kd.R_drewN | apply Kd.R_drew)); exact Kd.R_mono HO340.out (fun _ hk => ⟨hk.1.2, hk.2⟩)⟩, ⟨by (with_reducible repeat (first | apply Kd.R_alloc | apply Kd.R_drewN | apply Kd.R_drew)); exact Kd.R_mono HO330.out (fun _ hk => trivial)⟩, ⟨by (with_reducible repeat (first | apply Kd.R_alloc | apply Kd.R_drewN | apply Kd.R_drew)); exact Kd.R_mono HO333.out (fun _ hk => trivial)⟩, ⟨by (with_reducible repeat (first | refine blk_drewN ?_ _ | refine blk_drew ?_ | refine blk_alloc ?_ _)); exact BK311.out⟩, ⟨by (with_reducible repeat (first | refine blk_drewN ?_ _ | refine blk_drew ?_ | refine blk_alloc ?_ _)); exact BK334.out⟩, ⟨qB⟩⟩
      case rest =>
        clear HC16
        try clear c1
        try clear p2
        try clear c3
        try clear c3b0
        try clear c3b1
        try clear c4
        try clear c6
        try clear c6b0
        try clear c11
        try clear c13
        try clear c16
        try clear c17
        try clear c18
        try clear c19
        try clear c30
        try clear c39
        try clear hcz18_0
        try clear hcz18_1
        try clear hcz18_2
        try clear hcz20_0
        try clear hcz20_1
        try clear hcz20_2
        try clear hcz27_0
        try clear hcz27_1
        try clear hcz27_2
        try clear hcz31_0
        try clear hcz31_1
        try clear hcz31_2
        try clear hcz35_0
        try clear hcz35_1
        try clear hcz35_2
        try clear hcz8_0
        try clear hcz8_1
        try clear hcz8_2
        try clear hfz18_0
        try clear hfz18_1
        try clear hfz18_2
        try clear hfz20_0
        try clear hfz20_1
        try clear hfz20_2
        try clear hfz27_0
        try clear hfz27_1
        try clear hfz27_2
        try clear hfz31_0
        try clear hfz31_1
        try clear hfz31_2
        try clear hfz35_0
        try clear hfz35_1
        try clear hfz35_2
        try clear hfz8_0
        try clear hfz8_1
        try clear hfz8_2
        obtain ⟨kq, x51_15, rfl, HA, HJ15, HO_6, HO_9, HO_10, HO_335001, HO_335002, BK311, BK334, HB⟩ := hcut
        cases kq with
        | zero => exact absurd HA.out (by simp [laws_FnExactAllWires.j0])
        | succ kj15 =>
          have H := HA.out
          clear HA
          simp only [laws_FnExactAllWires.j0] at H
          by_cases c44 : x51_15 = true
          · subst c44
            have H1 : (some false) = some r := by rw [if_pos rfl] at H; exact H
            clear H
            have H := H1
            clear H1
            obtain rfl := Option.some.inj H
            go_wp2
            go_ret
            exact ⟨qE, qB⟩
          · replace c44 := Bool.eq_false_iff.mpr c44
            subst c44
            have H1 : ((laws_toCircuit.f kj15 a0_0 l0_1 l0_2).bind fun bt343 => ((laws_eqCircuit.f kj15 t327 t328 t331 bt343.1 bt343.2.1 bt343.2.2).bind fun t350 => (if t350 = true then ((laws_toBoolS.f kj15 l1).bind fun t351 => ((laws_eqBoolS.f kj15 t320 t351).bind fun t354 => (if t354 = true then ((laws_markCircuit.f kj15 t327 t328 t331 1).bind fun bt355 => ((laws_markBoolS.f kj15 t320 bt355.1).bind fun bt358 => (if bt358.1 < 0 then (laws_FnExactAllWires.j1 kj15 l1 t323 t326 t338 true a0_0 l0_1 l0_2) else ((laws_eqBoolS.f kj15 t338 t323).bind fun t360 => (if t360 = true then (laws_FnExactAllWires.j1 kj15 l1 t323 t326 t338 (t341 != t326) a0_0 l0_1 l0_2) else (laws_FnExactAllWires.j1 kj15 l1 t323 t326 t338 true a0_0 l0_1 l0_2)))))) else (some false)))) else (some false)))) = some r := by rw [if_neg (show ¬ (false = true) by decide)] at H; exact H
            clear H
            have H := H1
            clear H1
            replace H := Option.bind_eq_some_iff.mp H
            obtain ⟨⟨t343, t344, t347⟩, A450, H⟩ := H
            replace H : ((laws_eqCircuit.f kj15 t327 t328 t331 t343 t344 t347).bind fun t350 => (if t350 = true then ((laws_toBoolS.f kj15 l1).bind fun t351 => ((laws_eqBoolS.f kj15 t320 t351).bind fun t354 => (if t354 = true then ((laws_markCircuit.f kj15 t327 t328 t331 1).bind fun bt355 => ((laws_markBoolS.f kj15 t320 bt355.1).bind fun bt358 => (if bt358.1 < 0 then (laws_FnExactAllWires.j1 kj15 l1 t323 t326 t338 true a0_0 l0_1 l0_2) else ((laws_eqBoolS.f kj15 t338 t323).bind fun t360 => (if t360 = true then (laws_FnExactAllWires.j1 kj15 l1 t323 t326 t338 (t341 != t326) a0_0 l0_1 l0_2) else (laws_FnExactAllWires.j1 kj15 l1 t323 t326 t338 true a0_0 l0_1 l0_2)))))) else (some false)))) else (some false))) = some r := H
            have A45 := Aside0.mk A450
            clear A450
            replace H := Option.bind_eq_some_iff.mp H
            obtain ⟨t350, A460, H⟩ := H
            replace H : (if t350 = true then ((laws_toBoolS.f kj15 l1).bind fun t351 => ((laws_eqBoolS.f kj15 t320 t351).bind fun t354 => (if t354 = true then ((laws_markCircuit.f kj15 t327 t328 t331 1).bind fun bt355 => ((laws_markBoolS.f kj15 t320 bt355.1).bind fun bt358 => (if bt358.1 < 0 then (laws_FnExactAllWires.j1 kj15 l1 t323 t326 t338 true a0_0 l0_1 l0_2) else ((laws_eqBoolS.f kj15 t338 t323).bind fun t360 => (if t360 = true then (laws_FnExactAllWires.j1 kj15 l1 t323 t326 t338 (t341 != t326) a0_0 l0_1 l0_2) else (laws_FnExactAllWires.j1 kj15 l1 t323 t326 t338 true a0_0 l0_1 l0_2)))))) else (some false)))) else (some false)) = some r := H
            have A46 := Aside0.mk A460
            clear A460
            by_cases c47 : t350 = true
            · subst c47
              have H1 : ((laws_toBoolS.f kj15 l1).bind fun t351 => ((laws_eqBoolS.f kj15 t320 t351).bind fun t354 => (if t354 = true then ((laws_markCircuit.f kj15 t327 t328 t331 1).bind fun bt355 => ((laws_markBoolS.f kj15 t320 bt355.1).bind fun bt358 => (if bt358.1 < 0 then (laws_FnExactAllWires.j1 kj15 l1 t323 t326 t338 true a0_0 l0_1 l0_2) else ((laws_eqBoolS.f kj15 t338 t323).bind fun t360 => (if t360 = true then (laws_FnExactAllWires.j1 kj15 l1 t323 t326 t338 (t341 != t326) a0_0 l0_1 l0_2) else (laws_FnExactAllWires.j1 kj15 l1 t323 t326 t338 true a0_0 l0_1 l0_2)))))) else (some false)))) = some r := by rw [if_pos rfl] at H; exact H
              clear H
              have H := H1
              clear H1
              replace H := Option.bind_eq_some_iff.mp H
              obtain ⟨t351, A480, H⟩ := H
              replace H : ((laws_eqBoolS.f kj15 t320 t351).bind fun t354 => (if t354 = true then ((laws_markCircuit.f kj15 t327 t328 t331 1).bind fun bt355 => ((laws_markBoolS.f kj15 t320 bt355.1).bind fun bt358 => (if bt358.1 < 0 then (laws_FnExactAllWires.j1 kj15 l1 t323 t326 t338 true a0_0 l0_1 l0_2) else ((laws_eqBoolS.f kj15 t338 t323).bind fun t360 => (if t360 = true then (laws_FnExactAllWires.j1 kj15 l1 t323 t326 t338 (t341 != t326) a0_0 l0_1 l0_2) else (laws_FnExactAllWires.j1 kj15 l1 t323 t326 t338 true a0_0 l0_1 l0_2)))))) else (some false))) = some r := H
              have A48 := Aside0.mk A480
              clear A480
              replace H := Option.bind_eq_some_iff.mp H
              obtain ⟨t354, A490, H⟩ := H
              replace H : (if t354 = true then ((laws_markCircuit.f kj15 t327 t328 t331 1).bind fun bt355 => ((laws_markBoolS.f kj15 t320 bt355.1).bind fun bt358 => (if bt358.1 < 0 then (laws_FnExactAllWires.j1 kj15 l1 t323 t326 t338 true a0_0 l0_1 l0_2) else ((laws_eqBoolS.f kj15 t338 t323).bind fun t360 => (if t360 = true then (laws_FnExactAllWires.j1 kj15 l1 t323 t326 t338 (t341 != t326) a0_0 l0_1 l0_2) else (laws_FnExactAllWires.j1 kj15 l1 t323 t326 t338 true a0_0 l0_1 l0_2)))))) else (some false)) = some r := H
              have A49 := Aside0.mk A490
              clear A490
              by_cases c50 : t354 = true
              · subst c50
                have H1 : ((laws_markCircuit.f kj15 t327 t328 t331 1).bind fun bt355 => ((laws_markBoolS.f kj15 t320 bt355.1).bind fun bt358 => (if bt358.1 < 0 then (laws_FnExactAllWires.j1 kj15 l1 t323 t326 t338 true a0_0 l0_1 l0_2) else ((laws_eqBoolS.f kj15 t338 t323).bind fun t360 => (if t360 = true then (laws_FnExactAllWires.j1 kj15 l1 t323 t326 t338 (t341 != t326) a0_0 l0_1 l0_2) else (laws_FnExactAllWires.j1 kj15 l1 t323 t326 t338 true a0_0 l0_1 l0_2)))))) = some r := by rw [if_pos rfl] at H; exact H
                clear H
                have H := H1
                clear H1
                replace H := Option.bind_eq_some_iff.mp H
                obtain ⟨⟨t355, t356, t357⟩, A510, H⟩ := H
                replace H : ((laws_markBoolS.f kj15 t320 t355).bind fun bt358 => (if bt358.1 < 0 then (laws_FnExactAllWires.j1 kj15 l1 t323 t326 t338 true a0_0 l0_1 l0_2) else ((laws_eqBoolS.f kj15 t338 t323).bind fun t360 => (if t360 = true then (laws_FnExactAllWires.j1 kj15 l1 t323 t326 t338 (t341 != t326) a0_0 l0_1 l0_2) else (laws_FnExactAllWires.j1 kj15 l1 t323 t326 t338 true a0_0 l0_1 l0_2))))) = some r := H
                have A51 := Aside0.mk A510
                clear A510
                replace H := Option.bind_eq_some_iff.mp H
                obtain ⟨⟨t358, t359⟩, A520, H⟩ := H
                replace H : (if t358 < 0 then (laws_FnExactAllWires.j1 kj15 l1 t323 t326 t338 true a0_0 l0_1 l0_2) else ((laws_eqBoolS.f kj15 t338 t323).bind fun t360 => (if t360 = true then (laws_FnExactAllWires.j1 kj15 l1 t323 t326 t338 (t341 != t326) a0_0 l0_1 l0_2) else (laws_FnExactAllWires.j1 kj15 l1 t323 t326 t338 true a0_0 l0_1 l0_2)))) = some r := H
                have A52 := Aside0.mk A520
                clear A520
                have HC53 := Aside0.mk H
                clear H
                try go_wp2
                have n0_ := Aside0.mk (Kd.R_drew HO_6.out)
                have n1_ := Aside0.mk (Kd.R_drew HO_9.out)
                have n2_ := Aside0.mk (Kd.R_drew HO_10.out)
                have n3_ := Aside0.mk (Kd.R_drew HO_335001.out)
                have n4_ := Aside0.mk (Kd.R_drew HO_335002.out)
                have n5_ := Aside0.mk (blk_drew BK311.out)
                have n6_ := Aside0.mk (blk_drew BK334.out)
                have n7_ := Aside0.mk (below_drew1 HB.out)
                clear HO_6
                clear HO_9
                clear HO_10
                clear HO_335001
                clear HO_335002
                clear BK311
                clear BK334
                clear HB
                have HO_6 := n0_
                have HO_9 := n1_
                have HO_10 := n2_
                have HO_335001 := n3_
                have HO_335002 := n4_
                have BK311 := n5_
                have BK334 := n6_
                have HB := n7_
                clear n0_ n1_ n2_ n3_ n4_ n5_ n6_ n7_
                refine start_ (n := 5) (S := fun w' => w'.cell? ⟨gb334, 0, none⟩ = some (.int .i64 t327) ∧ w'.cell? ⟨gb334, 1, none⟩ = some (.slice Ao32 t328.length co32) ∧ w'.cell? ⟨gb334, 2, none⟩ = some (.slice Ao33 t331.length co33) ∧ w'.cell? ⟨gb311, 0, none⟩ = some (.int .i64 a0_0) ∧ w'.cell? ⟨gb311, 1, none⟩ = some (.slice A0_1 l0_1.length c0_1) ∧ w'.cell? ⟨gb311, 2, none⟩ = some (.slice A0_2 l0_2.length c0_2)) (ds := []) #[false, false, false, false, false] (by kernel_rfl) rfl rfl ⟨(blk_cell BK334.out 0).trans rfl, (blk_cell BK334.out 1).trans rfl, (blk_cell BK334.out 2).trans rfl, (blk_cell BK311.out 0).trans rfl, (blk_cell BK311.out 1).trans rfl, (blk_cell BK311.out 2).trans rfl⟩ (fun hHeld => ?_)
                generalize wc.drew = w54 at HO_6 HO_9 HO_10 HO_335001 HO_335002 BK311 BK334 HB hHeld ⊢
                refine take_ (i := 0) (N := some 52) (v := ?_) (a' := ?_) #[true, false, false, false, false] rfl rfl (by kernel_rfl) (fun _ _ _ h => h) (Or.inl ⟨by rfl, ?_⟩) hHeld ?_ ?_
                rotate_left
                · rintro w' ⟨s0, s1, s2, s3, s4, s5⟩
                  go_simp
                  with_reducible rfl
                rotate_left
                · simp only [Act.put, List.setIfInBounds_toArray, List.set_cons_zero, List.set_cons_succ, i64_w, i32_w]
                  rfl
                refine take_ (i := 1) (N := some 53) (v := ?_) (a' := ?_) #[true, true, false, false, false] rfl rfl (by kernel_rfl) (fun _ _ _ h => h) (Or.inl ⟨by rfl, ?_⟩) hHeld ?_ ?_
                rotate_left
                · rintro w' ⟨s0, s1, s2, s3, s4, s5⟩
                  go_simp
                  with_reducible rfl
                rotate_left
                · simp only [Act.put, List.setIfInBounds_toArray, List.set_cons_zero, List.set_cons_succ, i64_w, i32_w]
                  rfl
                refine one_ (i := 2) (N := some 54) #[true, true, true, false, false] rfl rfl (by kernel_rfl) (by decide) (fun K hK => ?_)
                refine goes_ Try.func13 (by kernel_rfl) rfl #[.agg #[.int .i64 a0_0, .slice A0_1 l0_1.length c0_1, .slice A0_2 l0_2.length c0_2]] (by rfl) rfl rfl qG ?_
                with_reducible refine (laws_toCircuit.calls kj15 a0_0 _ _ l0_1 _ _ l0_2 t343 t344 t347 _ ?side1 ?side2 ?side3 ?side4 A45.out).mono ?_
                (case side1 => exact qC (Kd.C_below HR0_1.out HB.out))
                (case side2 => exact HC0_1.out)
                (case side3 => exact qC (Kd.C_below HR0_2.out HB.out))
                (case side4 => exact HC0_2.out)
                rintro e w55 ⟨v345, v348, rfl, ho0, ho1, hb⟩
                refine ⟨_, rfl, ?_⟩
                have n0_ := Aside0.mk (Kd.R_below (qR HO_6.out) hb)
                have n1_ := Aside0.mk (Kd.R_below (qR HO_9.out) hb)
                have n2_ := Aside0.mk (Kd.R_below (qR HO_10.out) hb)
                have n3_ := Aside0.mk (Kd.R_elder' (qR HO_335001.out) (Kd.R_base ho0) hb)
                have n4_ := Aside0.mk (Kd.R_elder' (qR HO_335002.out) (Kd.R_base ho1) hb)
                have n5_ := Aside0.mk (Kd.R_lower (Kd.R_new' ho0 (Kd.R_lt (qR HO_335001.out))) (below_size (qB)))
                have n6_ := Aside0.mk (Kd.R_lower (Kd.R_new' ho1 (Kd.R_lt (qR HO_335002.out))) (below_size (qB)))
                have n7_ := Aside0.mk (blk_below (g := gb311) (o := .cells #[.int .i64 a0_0, .slice A0_1 l0_1.length c0_1, .slice A0_2 l0_2.length c0_2] 25 (0, 0)) (qK BK311.out) hb)
                have n8_ := Aside0.mk (blk_below (g := gb334) (o := .cells #[.int .i64 t327, .slice Ao32 t328.length co32, .slice Ao33 t331.length co33] 30 (0, 0)) (qK BK334.out) hb)
                have n9_ := Aside0.mk (below_step (qB) hb)
                clear HO_6
                clear HO_9
                clear HO_10
                clear HO_335001
                clear HO_335002
                clear BK311
                clear BK334
                clear HB
                have HO_6 := n0_
                have HO_9 := n1_
                have HO_10 := n2_
                have HO_335001 := n3_
                have HO_335002 := n4_
                have HO346 := n5_
                have HO349 := n6_
                have BK311 := n7_
                have BK334 := n8_
                have HB := n9_
                clear n0_ n1_ n2_ n3_ n4_ n5_ n6_ n7_ n8_ n9_
                (try clear hb)
                (try clear hb2)
                (try clear hk)
                (try clear hi)
                (try clear ho0)
                (try clear ho1)
                obtain ⟨Ao56, co56, eo56⟩ := Kd.R_slice HO346.out
                (first | subst eo56 | (injection eo56 with f1_ f2_ f3_; have f4_ := f1_.symm; have f5_ := f3_.symm; clear f1_ f2_ f3_; subst f4_; subst f5_))
                obtain ⟨Ao57, co57, eo57⟩ := Kd.R_slice HO349.out
                (first | subst eo57 | (injection eo57 with f1_ f2_ f3_; have f4_ := f1_.symm; have f5_ := f3_.symm; clear f1_ f2_ f3_; subst f4_; subst f5_))
                refine hK.out _ _ ⟨(blk_cell BK334.out 0).trans rfl, (blk_cell BK334.out 1).trans rfl, (blk_cell BK334.out 2).trans rfl, (blk_cell BK311.out 0).trans rfl, (blk_cell BK311.out 1).trans rfl, (blk_cell BK311.out 2).trans rfl⟩ (fun hHeld => ?_)
                clear hK K
                refine norm_ (a' := ?_) ?_ ?_
                rotate_left
                · show Act.put _ (some 54) _ = _
                  simp only [Act.put, List.setIfInBounds_toArray, List.set_cons_zero, List.set_cons_succ, i64_w, i32_w]
                  rfl
                refine one_ (i := 3) (N := some 55) #[true, true, true, true, false] rfl rfl (by kernel_rfl) (by decide) (fun K hK => ?_)
                refine goes_ Try.func15 (by kernel_rfl) rfl #[.agg #[.int .i64 t327, .slice Ao32 t328.length co32, .slice Ao33 t331.length co33], .agg #[.int .i64 t343, .slice Ao56 t344.length co56, .slice Ao57 t347.length co57]] (by rfl) rfl rfl qG ?_
                with_reducible refine (laws_eqCircuit.calls kj15 t327 _ _ t328 _ _ t331 t343 _ _ t344 _ _ t347 true _ ?side1 ?side2 ?side3 ?side4 ?side5 ?side6 ?side7 ?side8 A46.out).mono ?_
                (case side1 => repeat (first | exact (Kd.R_reads' HO_335001.out).2.2 | (with_reducible refine Kd.C_alloc ?_ _) | (with_reducible refine Kd.C_drewN ?_ _) | (with_reducible refine Kd.C_drew ?_)))
                (case side2 => exact (Kd.R_reads' HO_335001.out).2.1)
                (case side3 => repeat (first | exact (Kd.R_reads' HO_335002.out).2.2 | (with_reducible refine Kd.C_alloc ?_ _) | (with_reducible refine Kd.C_drewN ?_ _) | (with_reducible refine Kd.C_drew ?_)))
                (case side4 => exact (Kd.R_reads' HO_335002.out).2.1)
                (case side5 => repeat (first | exact (Kd.R_reads' HO346.out).2.2 | (with_reducible refine Kd.C_alloc ?_ _) | (with_reducible refine Kd.C_drewN ?_ _) | (with_reducible refine Kd.C_drew ?_)))
                (case side6 => exact (Kd.R_reads' HO346.out).2.1)
                (case side7 => repeat (first | exact (Kd.R_reads' HO349.out).2.2 | (with_reducible refine Kd.C_alloc ?_ _) | (with_reducible refine Kd.C_drewN ?_ _) | (with_reducible refine Kd.C_drew ?_)))
                (case side8 => exact (Kd.R_reads' HO349.out).2.1)
                rintro e w58 ⟨rfl, hb⟩
                refine ⟨_, rfl, ?_⟩
                have n0_ := Aside0.mk (Kd.R_below (qR HO_6.out) hb)
                have n1_ := Aside0.mk (Kd.R_below (qR HO_9.out) hb)
                have n2_ := Aside0.mk (Kd.R_below (qR HO_10.out) hb)
                have n3_ := Aside0.mk (Kd.R_below (qR HO_335001.out) hb)
                have n4_ := Aside0.mk (Kd.R_below (qR HO_335002.out) hb)
                have n5_ := Aside0.mk (Kd.R_below (qR HO346.out) hb)
                have n6_ := Aside0.mk (Kd.R_below (qR HO349.out) hb)
                have n7_ := Aside0.mk (blk_below (g := gb311) (o := .cells #[.int .i64 a0_0, .slice A0_1 l0_1.length c0_1, .slice A0_2 l0_2.length c0_2] 25 (0, 0)) (qK BK311.out) hb)
                have n8_ := Aside0.mk (blk_below (g := gb334) (o := .cells #[.int .i64 t327, .slice Ao32 t328.length co32, .slice Ao33 t331.length co33] 30 (0, 0)) (qK BK334.out) hb)
                have n9_ := Aside0.mk (below_step (qB) hb)
                clear HO_6
                clear HO_9
                clear HO_10
                clear HO_335001
                clear HO_335002
                clear HO346
                clear HO349
                clear BK311
                clear BK334
                clear HB
                have HO_6 := n0_
                have HO_9 := n1_
                have HO_10 := n2_
                have HO_335001 := n3_
                have HO_335002 := n4_
                have HO346 := n5_
                have HO349 := n6_
                have BK311 := n7_
                have BK334 := n8_
                have HB := n9_
                clear n0_ n1_ n2_ n3_ n4_ n5_ n6_ n7_ n8_ n9_
                (try clear hb)
                (try clear hb2)
                (try clear hk)
                (try clear hi)
                refine hK.out _ _ ⟨(blk_cell BK334.out 0).trans rfl, (blk_cell BK334.out 1).trans rfl, (blk_cell BK334.out 2).trans rfl, (blk_cell BK311.out 0).trans rfl, (blk_cell BK311.out 1).trans rfl, (blk_cell BK311.out 2).trans rfl⟩ (fun hHeld => ?_)
                clear hK K
                refine norm_ (a' := ?_) ?_ ?_
                rotate_left
                · show Act.put _ (some 55) _ = _
                  simp only [Act.put, List.setIfInBounds_toArray, List.set_cons_zero, List.set_cons_succ, i64_w, i32_w]
                  rfl
                refine pure_ (i := 4) (N := some 56) (v := ?_) (a' := ?_) #[true, true, true, true, true] rfl rfl (by kernel_rfl) (fun _ _ _ h => h) (Or.inl ⟨by rfl, ?_⟩) ?_ ?_
                rotate_left
                · intro w'
                  go_simp
                  with_reducible rfl
                rotate_left
                · simp only [Act.put, List.setIfInBounds_toArray, List.set_cons_zero, List.set_cons_succ, i64_w, i32_w]
                  rfl
                refine done_ (by kernel_rfl) ?_
                go_upto_region 20 with (first | ((with_reducible refine gate_callee (f := 17) rfl ?_); refine goesL_ (some 59) rfl rfl Try.func17 (by kernel_rfl) rfl #[.slice A1 l1.length c1] rfl qG ?_; (with_reducible refine (laws_toBoolS.calls kj15 _ _ l1 t351 _ ?side1 ?side2 A48.out).mono ?_); (case side1 => exact qC (Kd.C_below HR1.out HB.out)); (case side2 => exact HC1.out); rintro e w59 ⟨v352, rfl, ho0, hb⟩; refine ⟨_, rfl, ?_⟩; have n0_ := Aside0.mk (Kd.R_elder' (qR HO_6.out) (Kd.R_base ho0) hb); have n1_ := Aside0.mk (Kd.R_elder' (qR HO_9.out) (Kd.R_base ho0) hb); have n2_ := Aside0.mk (Kd.R_elder' (qR HO_10.out) (Kd.R_base ho0) hb); have n3_ := Aside0.mk (Kd.R_below (qR HO_335001.out) hb); have n4_ := Aside0.mk (Kd.R_below (qR HO_335002.out) hb); have n5_ := Aside0.mk (Kd.R_below (qR HO346.out) hb); have n6_ := Aside0.mk (Kd.R_below (qR HO349.out) hb); have n7_ := Aside0.mk (Kd.R_lower (Kd.R_new' (Kd.R_new' (Kd.R_new' ho0 (Kd.R_lt (qR HO_6.out))) (Kd.R_lt (qR HO_9.out))) (Kd.R_lt (qR HO_10.out))) (below_size (qB))); have n8_ := Aside0.mk (blk_below (g := gb311) (o := .cells #[.int .i64 a0_0, .slice A0_1 l0_1.length c0_1, .slice A0_2 l0_2.length c0_2] 25 (0, 0)) (qK BK311.out) hb); have n9_ := Aside0.mk (blk_below (g := gb334) (o := .cells #[.int .i64 t327, .slice Ao32 t328.length co32, .slice Ao33 t331.length co33] 30 (0, 0)) (qK BK334.out) hb); have n10_ := Aside0.mk (below_step (qB) hb); clear HO_6; clear HO_9; clear HO_10; clear HO_335001; clear HO_335002; clear HO346; clear HO349; clear BK311; clear BK334; clear HB; have HO_6 := n0_; have HO_9 := n1_; have HO_10 := n2_; have HO_335001 := n3_; have HO_335002 := n4_; have HO346 := n5_; have HO349 := n6_; have HO353 := n7_; have BK311 := n8_; have BK334 := n9_; have HB := n10_; clear n0_ n1_ n2_ n3_ n4_ n5_ n6_ n7_ n8_ n9_ n10_; (try clear hb); (try clear hb2); (try clear hk); (try clear hi); (try clear ho0); obtain ⟨Ao60, co60, eo60⟩ := Kd.R_slice HO353.out; subst eo60) | ((with_reducible refine gate_callee (f := 19) rfl ?_); refine goesL_ (some 60) rfl rfl Try.func19 (by kernel_rfl) rfl #[.slice Ao36 t320.length co36, .slice Ao60 t351.length co60] rfl qG ?_; (with_reducible refine (laws_eqBoolS.calls kj15 _ _ t320 _ _ t351 true _ ?side1 ?side2 ?side3 ?side4 A49.out).mono ?_); (case side1 => repeat (first | exact (Kd.R_reads' HO_9.out).2.2 | (with_reducible refine Kd.C_alloc ?_ _) | (with_reducible refine Kd.C_drewN ?_ _) | (with_reducible refine Kd.C_drew ?_))); (case side2 => exact (Kd.R_reads' HO_9.out).2.1); (case side3 => repeat (first | exact (Kd.R_reads' HO353.out).2.2 | (with_reducible refine Kd.C_alloc ?_ _) | (with_reducible refine Kd.C_drewN ?_ _) | (with_reducible refine Kd.C_drew ?_))); (case side4 => exact (Kd.R_reads' HO353.out).2.1); rintro e w' ⟨rfl, ⟨nd, rfl⟩⟩; refine ⟨_, rfl, ?_⟩; have hnb61 := NB334_311.out; have hnc61 := NB311_334.out; have hcz62_0 : w59.cell? ⟨gb334, 0, none⟩ = some (.int .i64 t327) := (blk_cell BK334.out 0).trans rfl; have hcz62_1 : w59.cell? ⟨gb334, 1, none⟩ = some (.slice Ao32 t328.length co32) := (blk_cell BK334.out 1).trans rfl; have hcz62_2 : w59.cell? ⟨gb334, 2, none⟩ = some (.slice Ao33 t331.length co33) := (blk_cell BK334.out 2).trans rfl; have hfz62_0 := blk_frozen BK334.out 0; have hfz62_1 := blk_frozen BK334.out 1; have hfz62_2 := blk_frozen BK334.out 2) | ((with_reducible refine gate_callee (f := 20) rfl ?_); refine goesL_ (some 64) rfl rfl Try.func20 (by kernel_rfl) rfl #[.agg #[.int .i64 t327, .slice Ao32 t328.length co32, .slice Ao33 t331.length co33], .int .i64 1] rfl qG ?_; (with_reducible refine (laws_markCircuit.calls kj15 t327 (fun k_ => some k_ = (.slice Ao32 t328.length co32 : Value).ownBlock) (.slice Ao32 t328.length co32) t328 (fun k_ => some k_ = (.slice Ao33 t331.length co33 : Value).ownBlock) (.slice Ao33 t331.length co33) t331 1 t355 t356 t357 w _ ?side1 ?side2 ?side3 A51.out).mono ?_); (case side1 => repeat (first | (with_reducible first | exact HB.out | apply below_alloc | apply pw_below_drewN | apply below_drew1 | refine below_set ?_ GE311.out | refine below_set ?_ GE334.out) | exact HB.out)); (case side2 => exact Kd.R_tight rfl HO_335001.out); (case side3 => exact Kd.R_tight rfl HO_335002.out); rintro e w63 ⟨rfl, hy0, hy1, hb, hkp⟩; refine ⟨_, rfl, ?_⟩; have n0_ := Aside0.mk (Kd.R_mono (ok' := fun k_ => some k_ ≠ (.slice Ao36 t320.length co36 : Value).ownBlock ∧ some k_ ≠ (v339 : Value).ownBlock ∧ some k_ ≠ (.slice Ao60 t351.length co60 : Value).ownBlock) (Kd.R_keptB ((Kd.R_apart' (Kd.R_apart' HO_6.out (Kd.R_typed HO_335001.out) (by decide)) (Kd.R_typed HO_335002.out) (by decide))) hkp (fun k_ hk_ hs_ => Or.elim hs_ (fun e_ => (hk_.1.2) e_) (fun e_ => (hk_.2) e_))) (fun k_ hk_ => ⟨hk_.1.1.1.1.1, hk_.1.1.1.1.2, hk_.1.1.1.2⟩)); have n1_ := Aside0.mk (Kd.R_mono (ok' := fun k_ => some k_ ≠ (v324 : Value).ownBlock ∧ some k_ ≠ (v339 : Value).ownBlock ∧ some k_ ≠ (.slice Ao60 t351.length co60 : Value).ownBlock) (Kd.R_keptB ((Kd.R_apart' (Kd.R_apart' HO_9.out (Kd.R_typed HO_335001.out) (by decide)) (Kd.R_typed HO_335002.out) (by decide))) hkp (fun k_ hk_ hs_ => Or.elim hs_ (fun e_ => (hk_.1.2) e_) (fun e_ => (hk_.2) e_))) (fun k_ hk_ => ⟨hk_.1.1.1.1.1, hk_.1.1.1.1.2, hk_.1.1.1.2⟩)); have n2_ := Aside0.mk (Kd.R_mono (ok' := fun k_ => some k_ ≠ (v324 : Value).ownBlock ∧ some k_ ≠ (.slice Ao36 t320.length co36 : Value).ownBlock ∧ some k_ ≠ (.slice Ao60 t351.length co60 : Value).ownBlock) (Kd.R_keptB ((Kd.R_apart' (Kd.R_apart' HO_10.out (Kd.R_typed HO_335001.out) (by decide)) (Kd.R_typed HO_335002.out) (by decide))) hkp (fun k_ hk_ hs_ => Or.elim hs_ (fun e_ => (hk_.1.2) e_) (fun e_ => (hk_.2) e_))) (fun k_ hk_ => ⟨hk_.1.1.1.1.1, hk_.1.1.1.1.2, hk_.1.1.1.2⟩)); have n3_ := Aside0.mk (Kd.R_reok rfl hy0 (fun k_ e_ => HO_335001.out.1 k_ e_)); have n4_ := Aside0.mk (Kd.R_reok rfl hy1 (fun k_ e_ => HO_335002.out.1 k_ e_)); have n5_ := Aside0.mk (blk_kept (qK BK311.out) hkp (fun hs_ => Or.elim hs_ (fun e_ => (fun e_ => (Kd.R_ne HO_335001.out BK311.out (by decide)) e_) e_) (fun e_ => (fun e_ => (Kd.R_ne HO_335002.out BK311.out (by decide)) e_) e_))); have n6_ := Aside0.mk (blk_kept (qK BK334.out) hkp (fun hs_ => Or.elim hs_ (fun e_ => (fun e_ => (Kd.R_ne HO_335001.out BK334.out (by decide)) e_) e_) (fun e_ => (fun e_ => (Kd.R_ne HO_335002.out BK334.out (by decide)) e_) e_))); have n7_ := Aside0.mk (Kd.R_mono (ok' := fun k_ => some k_ ≠ (.slice Ao32 t328.length co32 : Value).ownBlock) (Kd.R_keptB ((Kd.R_apart' HO346.out (Kd.R_typed HO_335002.out) (by decide))) hkp (fun k_ hk_ hs_ => Or.elim hs_ (fun e_ => (hk_.1.2) e_) (fun e_ => (hk_.2) e_))) (fun k_ hk_ => hk_.1.1.2)); have n8_ := Aside0.mk (Kd.R_mono (ok' := fun k_ => some k_ ≠ (.slice Ao33 t331.length co33 : Value).ownBlock) (Kd.R_keptB ((Kd.R_apart' HO349.out (Kd.R_typed HO_335001.out) (by decide))) hkp (fun k_ hk_ hs_ => Or.elim hs_ (fun e_ => (hk_.2) e_) (fun e_ => (hk_.1.2) e_))) (fun k_ hk_ => hk_.1.1.2)); have n9_ := Aside0.mk (Kd.R_mono (ok' := fun k_ => some k_ ≠ (v324 : Value).ownBlock ∧ some k_ ≠ (.slice Ao36 t320.length co36 : Value).ownBlock ∧ some k_ ≠ (v339 : Value).ownBlock) (Kd.R_keptB ((Kd.R_apart' (Kd.R_apart' HO353.out (Kd.R_typed HO_335001.out) (by decide)) (Kd.R_typed HO_335002.out) (by decide))) hkp (fun k_ hk_ hs_ => Or.elim hs_ (fun e_ => (hk_.1.2) e_) (fun e_ => (hk_.2) e_))) (fun k_ hk_ => ⟨hk_.1.1.1.1.1.2, hk_.1.1.1.1.2, hk_.1.1.1.2⟩)); have n10_ := Aside0.mk (hb); clear HO_6; clear HO_9; clear HO_10; clear HO_335001; clear HO_335002; clear BK311; clear BK334; clear HO346; clear HO349; clear HO353; clear HB; have HO_6 := n0_; have HO_9 := n1_; have HO_10 := n2_; have HO_335001 := n3_; have HO_335002 := n4_; have BK311 := n5_; have BK334 := n6_; have HO346 := n7_; have HO349 := n8_; have HO353 := n9_; have HB := n10_; clear n0_ n1_ n2_ n3_ n4_ n5_ n6_ n7_ n8_ n9_ n10_; (try clear hb); (try clear hkp); (try clear hy0); (try clear hy1)) | ((with_reducible refine gate_callee (f := 21) rfl ?_); refine goesL_ (some 67) rfl rfl Try.func21 (by kernel_rfl) rfl #[.slice Ao36 t320.length co36, .int .i64 t355] rfl qG ?_; (with_reducible refine (laws_markBoolS.calls kj15 (fun k_ => some k_ = (.slice Ao36 t320.length co36 : Value).ownBlock) (.slice Ao36 t320.length co36) t320 t355 t358 t359 w _ ?side1 ?side2 A52.out).mono ?_); (case side1 => repeat (first | (with_reducible first | exact HB.out | apply below_alloc | apply pw_below_drewN | apply below_drew1 | refine below_set ?_ GE311.out | refine below_set ?_ GE334.out) | exact HB.out)); (case side2 => exact Kd.R_tight rfl HO_9.out); rintro e w64 ⟨rfl, hy0, hb, hkp⟩; refine ⟨_, rfl, ?_⟩; have n0_ := Aside0.mk (Kd.R_mono (ok' := fun k_ => some k_ ≠ (.slice Ao36 t320.length co36 : Value).ownBlock ∧ some k_ ≠ (v339 : Value).ownBlock ∧ some k_ ≠ (.slice Ao60 t351.length co60 : Value).ownBlock) (Kd.R_keptB (HO_6.out) hkp (fun k_ hk_ hs_ => (hk_.1) hs_)) (fun k_ hk_ => ⟨hk_.1.1, hk_.1.2.1, hk_.1.2.2⟩)); have n1_ := Aside0.mk (Kd.R_reok rfl hy0 (fun k_ e_ => HO_9.out.1 k_ e_)); have n2_ := Aside0.mk (Kd.R_mono (ok' := fun k_ => some k_ ≠ (v324 : Value).ownBlock ∧ some k_ ≠ (.slice Ao36 t320.length co36 : Value).ownBlock ∧ some k_ ≠ (.slice Ao60 t351.length co60 : Value).ownBlock) (Kd.R_keptB (HO_10.out) hkp (fun k_ hk_ hs_ => (hk_.2.1) hs_)) (fun k_ hk_ => ⟨hk_.1.1, hk_.1.2.1, hk_.1.2.2⟩)); have n3_ := Aside0.mk (Kd.R_mono (ok' := fun k_ => some k_ ≠ (.slice Ao56 t344.length co56 : Value).ownBlock) (Kd.R_keptB ((Kd.R_apart' HO_335001.out (Kd.R_typed HO_9.out) (by decide))) hkp (fun k_ hk_ hs_ => (hk_.2) hs_)) (fun k_ hk_ => hk_.1.1.2)); have n4_ := Aside0.mk (Kd.R_mono (ok' := fun k_ => some k_ ≠ (.slice Ao57 t347.length co57 : Value).ownBlock) (Kd.R_keptB ((Kd.R_apart' HO_335002.out (Kd.R_typed HO_9.out) (by decide))) hkp (fun k_ hk_ hs_ => (hk_.2) hs_)) (fun k_ hk_ => hk_.1.1.2)); have n5_ := Aside0.mk (blk_kept (qK BK311.out) hkp (fun hs_ => (fun e_ => (Kd.R_ne HO_9.out BK311.out (by decide)) e_) hs_)); have n6_ := Aside0.mk (blk_kept (qK BK334.out) hkp (fun hs_ => (fun e_ => (Kd.R_ne HO_9.out BK334.out (by decide)) e_) hs_)); have n7_ := Aside0.mk (Kd.R_mono (ok' := fun k_ => some k_ ≠ (.slice Ao32 t328.length co32 : Value).ownBlock) (Kd.R_keptB ((Kd.R_apart' HO346.out (Kd.R_typed HO_9.out) (by decide))) hkp (fun k_ hk_ hs_ => (hk_.2) hs_)) (fun k_ hk_ => hk_.1.1)); have n8_ := Aside0.mk (Kd.R_mono (ok' := fun k_ => some k_ ≠ (.slice Ao33 t331.length co33 : Value).ownBlock) (Kd.R_keptB ((Kd.R_apart' HO349.out (Kd.R_typed HO_9.out) (by decide))) hkp (fun k_ hk_ hs_ => (hk_.2) hs_)) (fun k_ hk_ => hk_.1.1)); have n9_ := Aside0.mk (Kd.R_mono (ok' := fun k_ => some k_ ≠ (v324 : Value).ownBlock ∧ some k_ ≠ (.slice Ao36 t320.length co36 : Value).ownBlock ∧ some k_ ≠ (v339 : Value).ownBlock) (Kd.R_keptB (HO353.out) hkp (fun k_ hk_ hs_ => (hk_.2.1) hs_)) (fun k_ hk_ => ⟨hk_.1.1, hk_.1.2.1, hk_.1.2.2⟩)); have n10_ := Aside0.mk (hb); clear HO_6; clear HO_9; clear HO_10; clear HO_335001; clear HO_335002; clear BK311; clear BK334; clear HO346; clear HO349; clear HO353; clear HB; have HO_6 := n0_; have HO_9 := n1_; have HO_10 := n2_; have HO_335001 := n3_; have HO_335002 := n4_; have BK311 := n5_; have BK334 := n6_; have HO346 := n7_; have HO349 := n8_; have HO353 := n9_; have HB := n10_; clear n0_ n1_ n2_ n3_ n4_ n5_ n6_ n7_ n8_ n9_ n10_; (try clear hb); (try clear hkp); (try clear hy0)))
                (try simp only [Act.put, List.setIfInBounds_toArray, List.set_cons_zero, List.set_cons_succ])
                go_cut [80] (fun v80 wc => ∃ (kq : Nat) (x80_52 : Bool), v80 = .bool x80_52 ∧ Aside0 (laws_FnExactAllWires.j1 kq l1 t323 t326 t338 x80_52 a0_0 l0_1 l0_2 = some r) ∧ Aside0 (kq ≤ kj15) ∧ Aside0 (Kd.R Kd.bool 4 wc w.heap.size (fun k_ => some k_ ≠ (v339 : Value).ownBlock) v324 t323) ∧ Aside0 (Kd.R Kd.bool 4 wc w.heap.size (fun k_ => some k_ ≠ (v324 : Value).ownBlock) v339 t338) ∧ Aside0 (Kd.R k59 59 wc w.heap.size (fun _ => True) (.slice Ao32 t328.length co32) t356) ∧ Aside0 (Kd.R (Kd.int .i64) 3 wc w.heap.size (fun _ => True) (.slice Ao33 t331.length co33) t357) ∧ Aside0 (wc.heap[gb311]? = some (.cells #[.int .i64 a0_0, (.slice A0_1 l0_1.length c0_1), (.slice A0_2 l0_2.length c0_2)] 25 (0, 0))) ∧ Aside0 (wc.heap[gb334]? = some (.cells #[.int .i64 t327, (.slice Ao32 t328.length co32), (.slice Ao33 t331.length co33)] 30 (0, 0))) ∧ Aside0 (Below w.heap.size w wc))
                case first =>
                  have H := HC53.out
                  clear HC53
                  by_cases c65 : t358 < 0
                  · rw [if_pos c65] at H
                    have c65b0 : decide (t358 < 0) = true := decide_eq_true c65
                    clear c65
                    (first | rw [c65b0] | (simp only [i64_w, i32_w]; rw [c65b0]) | skip)
                    have H' := Aside0.mk H
                    clear H
                    go_wp2
                    go_meet
                    case rel => exact ⟨_, (true), qS, H', ⟨by have := HJ15.out; first | omega | exact Nat.le_refl _⟩, ⟨by (with_reducible repeat (first | apply Kd.R_alloc | apply Kd.R_drewN | apply Kd.R_drew)); exact Kd.R_mono HO_6.out (fun _ hk => hk.2.1)⟩, ⟨by (with_reducible repeat (first | apply Kd.R_alloc | apply Kd.R_drewN | apply Kd.R_drew)); exact Kd.R_mono HO_10.out (fun _ hk => hk.1)⟩, ⟨by (with_reducible repeat (first | apply Kd.R_alloc | apply Kd.R_drewN | apply Kd.R_drew)); exact Kd.R_mono HO_335001.out (fun _ hk => trivial)⟩, ⟨by (with_reducible repeat (first | apply Kd.R_alloc | apply Kd.R_drewN | apply Kd.R_drew)); exact Kd.R_mono HO_335002.out (fun _ hk => trivial)⟩, ⟨by (with_reducible repeat (first | refine blk_drewN ?_ _ | refine blk_drew ?_ | refine blk_alloc ?_ _)); exact BK311.out⟩, ⟨by (with_reducible repeat (first | refine blk_drewN ?_ _ | refine blk_drew ?_ | refine blk_alloc ?_ _)); exact BK334.out⟩, ⟨qB⟩⟩
                  · rw [if_neg c65] at H
                    have c65b0 : decide (t358 < 0) = false := decide_eq_false c65
                    clear c65
                    (first | rw [c65b0] | (simp only [i64_w, i32_w]; rw [c65b0]) | skip)
                    replace H := Option.bind_eq_some_iff.mp H
                    obtain ⟨t360, A660, H⟩ := H
                    replace H : (if t360 = true then (laws_FnExactAllWires.j1 kj15 l1 t323 t326 t338 (t341 != t326) a0_0 l0_1 l0_2) else (laws_FnExactAllWires.j1 kj15 l1 t323 t326 t338 true a0_0 l0_1 l0_2)) = some r := H
                    have A66 := Aside0.mk A660
                    clear A660
                    by_cases c67 : t360 = true
                    · subst c67
                      have H1 : (laws_FnExactAllWires.j1 kj15 l1 t323 t326 t338 (t341 != t326) a0_0 l0_1 l0_2) = some r := by rw [if_pos rfl] at H; exact H
                      clear H
                      have H := H1
                      clear H1
                      have H' := Aside0.mk H
                      clear H
                      obtain ⟨Ao68, co68, eo68⟩ := Kd.R_slice HO_10.out
                      subst eo68
                      obtain ⟨Ao69, co69, eo69⟩ := Kd.R_slice HO_6.out
                      subst eo69
                      go_wp2_with (first | (go_at_call 19; (with_reducible refine (laws_eqBoolS.calls kj15 _ _ t338 _ _ t323 true _ ?side1 ?side2 ?side3 ?side4 A66.out).mono ?_); (case side1 => repeat (first | exact (Kd.R_reads' HO_10.out).2.2 | (with_reducible refine Kd.C_alloc ?_ _) | (with_reducible refine Kd.C_drewN ?_ _) | (with_reducible refine Kd.C_drew ?_))); (case side2 => exact (Kd.R_reads' HO_10.out).2.1); (case side3 => repeat (first | exact (Kd.R_reads' HO_6.out).2.2 | (with_reducible refine Kd.C_alloc ?_ _) | (with_reducible refine Kd.C_drewN ?_ _) | (with_reducible refine Kd.C_drew ?_))); (case side4 => exact (Kd.R_reads' HO_6.out).2.1); rintro e w' ⟨rfl, ⟨nd, rfl⟩⟩))
                      go_meet
                      case rel => exact ⟨_, ((t341 != t326)), qS, H', ⟨by have := HJ15.out; first | omega | exact Nat.le_refl _⟩, ⟨by (with_reducible repeat (first | apply Kd.R_alloc | apply Kd.R_drewN | apply Kd.R_drew)); exact Kd.R_mono HO_6.out (fun _ hk => hk.2.1)⟩, ⟨by (with_reducible repeat (first | apply Kd.R_alloc | apply Kd.R_drewN | apply Kd.R_drew)); exact Kd.R_mono HO_10.out (fun _ hk => hk.1)⟩, ⟨by (with_reducible repeat (first | apply Kd.R_alloc | apply Kd.R_drewN | apply Kd.R_drew)); exact Kd.R_mono HO_335001.out (fun _ hk => trivial)⟩, ⟨by (with_reducible repeat (first | apply Kd.R_alloc | apply Kd.R_drewN | apply Kd.R_drew)); exact Kd.R_mono HO_335002.out (fun _ hk => trivial)⟩, ⟨by (with_reducible repeat (first | refine blk_drewN ?_ _ | refine blk_drew ?_ | refine blk_alloc ?_ _)); exact BK311.out⟩, ⟨by (with_reducible repeat (first | refine blk_drewN ?_ _ | refine blk_drew ?_ | refine blk_alloc ?_ _)); exact BK334.out⟩, ⟨qB⟩⟩
                    · replace c67 := Bool.eq_false_iff.mpr c67
                      subst c67
                      have H1 : (laws_FnExactAllWires.j1 kj15 l1 t323 t326 t338 true a0_0 l0_1 l0_2) = some r := by rw [if_neg (show ¬ (false = true) by decide)] at H; exact H
                      clear H
                      have H := H1
                      clear H1
                      have H' := Aside0.mk H
                      clear H
                      obtain ⟨Ao70, co70, eo70⟩ := Kd.R_slice HO_10.out
                      subst eo70
                      obtain ⟨Ao71, co71, eo71⟩ := Kd.R_slice HO_6.out
                      subst eo71
                      go_wp2_with (first | (go_at_call 19; (with_reducible refine (laws_eqBoolS.calls kj15 _ _ t338 _ _ t323 false _ ?side1 ?side2 ?side3 ?side4 A66.out).mono ?_); (case side1 => repeat (first | exact (Kd.R_reads' HO_10.out).2.2 | (with_reducible refine Kd.C_alloc ?_ _) | (with_reducible refine Kd.C_drewN ?_ _) | (with_reducible refine Kd.C_drew ?_))); (case side2 => exact (Kd.R_reads' HO_10.out).2.1); (case side3 => repeat (first | exact (Kd.R_reads' HO_6.out).2.2 | (with_reducible refine Kd.C_alloc ?_ _) | (with_reducible refine Kd.C_drewN ?_ _) | (with_reducible refine Kd.C_drew ?_))); (case side4 => exact (Kd.R_reads' HO_6.out).2.1); rintro e w' ⟨rfl, ⟨nd, rfl⟩⟩))
                      go_meet
                      case rel => exact ⟨_, (true), qS, H', ⟨by have := HJ15.out; first | omega | exact Nat.le_refl _⟩, ⟨by (with_reducible repeat (first | apply Kd.R_alloc | apply Kd.R_drewN | apply Kd.R_drew)); exact Kd.R_mono HO_6.out (fun _ hk => hk.2.1)⟩, ⟨by (with_reducible repeat (first | apply Kd.R_alloc | apply Kd.R_drewN | apply Kd.R_drew)); exact Kd.R_mono HO_10.out (fun _ hk => hk.1)⟩, ⟨by (with_reducible repeat (first | apply Kd.R_alloc | apply Kd.R_drewN | apply Kd.R_drew)); exact Kd.R_mono HO_335001.out (fun _ hk => trivial)⟩, ⟨by (with_reducible repeat (first | apply Kd.R_alloc | apply Kd.R_drewN | apply Kd.R_drew)); exact Kd.R_mono HO_335002.out (fun _ hk => trivial)⟩, ⟨by (with_reducible repeat (first | refine blk_drewN ?_ _ | refine blk_drew ?_ | refine blk_alloc ?_ _)); exact BK311.out⟩, ⟨by (with_reducible repeat (first | refine blk_drewN ?_ _ | refine blk_drew ?_ | refine blk_alloc ?_ _)); exact BK334.out⟩, ⟨qB⟩⟩
                case rest =>
                  clear HC53
                  try clear c1
                  try clear c2
                  try clear p2
                  try clear c3
                  try clear c3b0
                  try clear c3b1
                  try clear c4
                  try clear c5
                  try clear c6
                  try clear c6b0
                  try clear c11
                  try clear c13
                  try clear c15
                  try clear c16
                  try clear c17
                  try clear c18
                  try clear c19
                  try clear c20
                  try clear c21
                  try clear c30
                  try clear c39
                  try clear c44
                  try clear c47
                  try clear c50
                  try clear c61
                  try clear c65
                  try clear c65b0
                  try clear c67
                  try clear hcz18_0
                  try clear hcz18_1
                  try clear hcz18_2
                  try clear hcz20_0
                  try clear hcz20_1
                  try clear hcz20_2
                  try clear hcz27_0
                  try clear hcz27_1
                  try clear hcz27_2
                  try clear hcz31_0
                  try clear hcz31_1
                  try clear hcz31_2
                  try clear hcz35_0
                  try clear hcz35_1
                  try clear hcz35_2
                  try clear hcz62_0
                  try clear hcz62_1
                  try clear hcz62_2
                  try clear hcz8_0
                  try clear hcz8_1
                  try clear hcz8_2
                  try clear hfz18_0
                  try clear hfz18_1
                  try clear hfz18_2
                  try clear hfz20_0
                  try clear hfz20_1
                  try clear hfz20_2
                  try clear hfz27_0
                  try clear hfz27_1
                  try clear hfz27_2
                  try clear hfz31_0
                  try clear hfz31_1
                  try clear hfz31_2
                  try clear hfz35_0
                  try clear hfz35_1
                  try clear hfz35_2
                  try clear hfz62_0
                  try clear hfz62_1
                  try clear hfz62_2
                  try clear hfz8_0
                  try clear hfz8_1
                  try clear hfz8_2
                  try clear p2
                  obtain ⟨kq, x80_52, rfl, HA, HJ52, HO_6, HO_10, HO_335001, HO_335002, BK311, BK334, HB⟩ := hcut
                  have hl335001_52 := (Kd.R_reads' HO_335001.out).1
                  rw [hl335001_52] at HO_335001
                  (try simp only [hl335001_52])
                  (try simp only [hl335001_52] at BK311)
                  (try simp only [hl335001_52] at BK334)
                  (try simp only [hl335001_52] at HO_6)
                  (try simp only [hl335001_52] at HO_10)
                  (try simp only [hl335001_52] at HO_335002)
                  have hl335002_52 := (Kd.R_reads' HO_335002.out).1
                  rw [hl335002_52] at HO_335002
                  (try simp only [hl335002_52])
                  (try simp only [hl335002_52] at BK311)
                  (try simp only [hl335002_52] at BK334)
                  (try simp only [hl335002_52] at HO_6)
                  (try simp only [hl335002_52] at HO_10)
                  (try simp only [hl335002_52] at HO_335001)
                  cases kq with
                  | zero => exact absurd HA.out (by simp [laws_FnExactAllWires.j1])
                  | succ kj52 =>
                    have H := HA.out
                    clear HA
                    simp only [laws_FnExactAllWires.j1] at H
                    by_cases c72 : x80_52 = true
                    · subst c72
                      have H1 : (some false) = some r := by rw [if_pos rfl] at H; exact H
                      clear H
                      have H := H1
                      clear H1
                      obtain rfl := Option.some.inj H
                      go_wp2
                      go_ret
                      exact ⟨qE, qB⟩
                    · replace c72 := Bool.eq_false_iff.mpr c72
                      subst c72
                      have H1 : ((laws_markBoolS.f kj52 t338 1).bind fun bt361 => ((laws_heldBoolS.f kj52 bt361.2 1).bind fun t363 => (if t363 < 0 then (some false) else (if t363 = bt361.1 then ((laws_toCircuit.f kj52 a0_0 l0_1 l0_2).bind fun bt364 => ((laws_toBoolS.f kj52 l1).bind fun t371 => ((impl_AllWires.f kj52 bt364.1 bt364.2.1 bt364.2.2 t371).bind fun bt374 => ((laws_eqBoolS.f kj52 bt374.1 t323).bind fun t378 => (if t378 = true then (laws_FnExactAllWires.j2 kj52 bt361.2 bt361.1 (bt374.2 != t326)) else (laws_FnExactAllWires.j2 kj52 bt361.2 bt361.1 true)))))) else (some false))))) = some r := by rw [if_neg (show ¬ (false = true) by decide)] at H; exact H
                      clear H
                      have H := H1
                      clear H1
                      replace H := Option.bind_eq_some_iff.mp H
                      obtain ⟨⟨t361, t362⟩, A730, H⟩ := H
                      replace H : ((laws_heldBoolS.f kj52 t362 1).bind fun t363 => (if t363 < 0 then (some false) else (if t363 = t361 then ((laws_toCircuit.f kj52 a0_0 l0_1 l0_2).bind fun bt364 => ((laws_toBoolS.f kj52 l1).bind fun t371 => ((impl_AllWires.f kj52 bt364.1 bt364.2.1 bt364.2.2 t371).bind fun bt374 => ((laws_eqBoolS.f kj52 bt374.1 t323).bind fun t378 => (if t378 = true then (laws_FnExactAllWires.j2 kj52 t362 t361 (bt374.2 != t326)) else (laws_FnExactAllWires.j2 kj52 t362 t361 true)))))) else (some false)))) = some r := H
                      have A73 := Aside0.mk A730
                      clear A730
                      replace H := Option.bind_eq_some_iff.mp H
                      obtain ⟨t363, A740, H⟩ := H
                      replace H : (if t363 < 0 then (some false) else (if t363 = t361 then ((laws_toCircuit.f kj52 a0_0 l0_1 l0_2).bind fun bt364 => ((laws_toBoolS.f kj52 l1).bind fun t371 => ((impl_AllWires.f kj52 bt364.1 bt364.2.1 bt364.2.2 t371).bind fun bt374 => ((laws_eqBoolS.f kj52 bt374.1 t323).bind fun t378 => (if t378 = true then (laws_FnExactAllWires.j2 kj52 t362 t361 (bt374.2 != t326)) else (laws_FnExactAllWires.j2 kj52 t362 t361 true)))))) else (some false))) = some r := H
                      have A74 := Aside0.mk A740
                      clear A740
                      by_cases c75 : t363 < 0
                      · rw [if_pos c75] at H
                        have c75b0 : decide (t363 < 0) = true := decide_eq_true c75
                        clear c75
                        obtain rfl := Option.some.inj H
                        obtain ⟨Ao76, co76, eo76⟩ := Kd.R_slice HO_10.out
                        subst eo76
                        go_wp2_with (first | ((with_reducible refine gate_callee (f := 21) rfl ?_); refine goesL_ (some 83) rfl rfl Try.func21 (by kernel_rfl) rfl #[.slice Ao76 t338.length co76, .int .i64 1] rfl qG ?_; (with_reducible refine (laws_markBoolS.calls kj52 (fun k_ => some k_ = (.slice Ao76 t338.length co76 : Value).ownBlock) (.slice Ao76 t338.length co76) t338 1 t361 t362 w _ ?side1 ?side2 A73.out).mono ?_); (case side1 => repeat (first | (with_reducible first | exact HB.out | apply below_alloc | apply pw_below_drewN | apply below_drew1 | refine below_set ?_ GE311.out | refine below_set ?_ GE334.out) | exact HB.out)); (case side2 => exact Kd.R_tight rfl HO_10.out); rintro e w77 ⟨rfl, hy0, hb, hkp⟩; refine ⟨_, rfl, ?_⟩; have n0_ := Aside0.mk (Kd.R_mono (ok' := fun k_ => some k_ ≠ (.slice Ao76 t338.length co76 : Value).ownBlock) (Kd.R_keptB (HO_6.out) hkp (fun k_ hk_ hs_ => (hk_) hs_)) (fun k_ hk_ => hk_.1)); have n1_ := Aside0.mk (Kd.R_reok rfl hy0 (fun k_ e_ => HO_10.out.1 k_ e_)); have n2_ := Aside0.mk (Kd.R_mono (ok' := fun k_ => True) (Kd.R_keptB ((Kd.R_apart' HO_335001.out (Kd.R_typed HO_10.out) (by decide))) hkp (fun k_ hk_ hs_ => (hk_.2) hs_)) (fun k_ hk_ => trivial)); have n3_ := Aside0.mk (Kd.R_mono (ok' := fun k_ => True) (Kd.R_keptB ((Kd.R_apart' HO_335002.out (Kd.R_typed HO_10.out) (by decide))) hkp (fun k_ hk_ hs_ => (hk_.2) hs_)) (fun k_ hk_ => trivial)); have n4_ := Aside0.mk (blk_kept (qK BK311.out) hkp (fun hs_ => (fun e_ => (Kd.R_ne HO_10.out BK311.out (by decide)) e_) hs_)); have n5_ := Aside0.mk (blk_kept (qK BK334.out) hkp (fun hs_ => (fun e_ => (Kd.R_ne HO_10.out BK334.out (by decide)) e_) hs_)); have n6_ := Aside0.mk (hb); clear HO_6; clear HO_10; clear HO_335001; clear HO_335002; clear BK311; clear BK334; clear HB; have HO_6 := n0_; have HO_10 := n1_; have HO_335001 := n2_; have HO_335002 := n3_; have BK311 := n4_; have BK334 := n5_; have HB := n6_; clear n0_ n1_ n2_ n3_ n4_ n5_ n6_; (try clear hb); (try clear hkp); (try clear hy0)) | ((with_reducible refine gate_callee (f := 22) rfl ?_); refine goesL_ (some 86) rfl rfl Try.func22 (by kernel_rfl) rfl #[.slice Ao76 t362.length co76, .int .i64 1] rfl (by (try simp only [List.map_toArray, List.map_cons, List.map_nil]); first | done | (rw [show t362.length = t338.length from (Kd.R_reads' HO_10.out).1.symm] <;> rfl) | rfl | (simp only [List.length_drop, List.length_take]; rfl)) ?_; (with_reducible refine (laws_heldBoolS.calls kj52 _ _ t362 1 t363 _ ?side1 ?side2 A74.out).mono ?_); (case side1 => repeat (first | exact (Kd.R_reads' HO_10.out).2.2 | (with_reducible refine Kd.C_alloc ?_ _) | (with_reducible refine Kd.C_drewN ?_ _) | (with_reducible refine Kd.C_drew ?_))); (case side2 => rw [show t362.length = t338.length from (Kd.R_reads' HO_10.out).1.symm]; exact (Kd.R_reads' HO_10.out).2.1); rintro e w' ⟨rfl, ⟨nd, rfl⟩⟩; refine ⟨_, rfl, ?_⟩))
                        go_ret
                        exact ⟨qE, qB⟩
                      · rw [if_neg c75] at H
                        have c75b0 : decide (t363 < 0) = false := decide_eq_false c75
                        clear c75
                        by_cases c78 : t363 = t361
                        · rw [if_pos c78] at H
                          have c78b0 : (t363 == t361) = true := beq_iff_eq.mpr c78
                          have c78b1 : (t363 != t361) = false := bne_eq_false_iff_eq.mpr c78
                          clear c78
                          replace H := Option.bind_eq_some_iff.mp H
                          obtain ⟨⟨t364, t365, t368⟩, A790, H⟩ := H
                          replace H : ((laws_toBoolS.f kj52 l1).bind fun t371 => ((impl_AllWires.f kj52 t364 t365 t368 t371).bind fun bt374 => ((laws_eqBoolS.f kj52 bt374.1 t323).bind fun t378 => (if t378 = true then (laws_FnExactAllWires.j2 kj52 t362 t361 (bt374.2 != t326)) else (laws_FnExactAllWires.j2 kj52 t362 t361 true))))) = some r := H
                          have A79 := Aside0.mk A790
                          clear A790
                          replace H := Option.bind_eq_some_iff.mp H
                          obtain ⟨t371, A800, H⟩ := H
                          replace H : ((impl_AllWires.f kj52 t364 t365 t368 t371).bind fun bt374 => ((laws_eqBoolS.f kj52 bt374.1 t323).bind fun t378 => (if t378 = true then (laws_FnExactAllWires.j2 kj52 t362 t361 (bt374.2 != t326)) else (laws_FnExactAllWires.j2 kj52 t362 t361 true)))) = some r := H
                          have A80 := Aside0.mk A800
                          clear A800
                          replace H := Option.bind_eq_some_iff.mp H
                          obtain ⟨⟨t374, t377⟩, A810, H⟩ := H
                          replace H : ((laws_eqBoolS.f kj52 t374 t323).bind fun t378 => (if t378 = true then (laws_FnExactAllWires.j2 kj52 t362 t361 (t377 != t326)) else (laws_FnExactAllWires.j2 kj52 t362 t361 true))) = some r := H
                          have A81 := Aside0.mk A810
                          clear A810
                          have HC82 := Aside0.mk H
                          clear H
                          obtain ⟨Ao83, co83, eo83⟩ := Kd.R_slice HO_10.out
                          subst eo83
                          go_upto_region 31 with (first | ((with_reducible refine gate_callee (f := 21) rfl ?_); refine goesL_ (some 83) rfl rfl Try.func21 (by kernel_rfl) rfl #[.slice Ao83 t338.length co83, .int .i64 1] rfl qG ?_; (with_reducible refine (laws_markBoolS.calls kj52 (fun k_ => some k_ = (.slice Ao83 t338.length co83 : Value).ownBlock) (.slice Ao83 t338.length co83) t338 1 t361 t362 w _ ?side1 ?side2 A73.out).mono ?_); (case side1 => repeat (first | (with_reducible first | exact HB.out | apply below_alloc | apply pw_below_drewN | apply below_drew1 | refine below_set ?_ GE311.out | refine below_set ?_ GE334.out) | exact HB.out)); (case side2 => exact Kd.R_tight rfl HO_10.out); rintro e w84 ⟨rfl, hy0, hb, hkp⟩; refine ⟨_, rfl, ?_⟩; have n0_ := Aside0.mk (Kd.R_mono (ok' := fun k_ => some k_ ≠ (.slice Ao83 t338.length co83 : Value).ownBlock) (Kd.R_keptB (HO_6.out) hkp (fun k_ hk_ hs_ => (hk_) hs_)) (fun k_ hk_ => hk_.1)); have n1_ := Aside0.mk (Kd.R_reok rfl hy0 (fun k_ e_ => HO_10.out.1 k_ e_)); have n2_ := Aside0.mk (Kd.R_mono (ok' := fun k_ => True) (Kd.R_keptB ((Kd.R_apart' HO_335001.out (Kd.R_typed HO_10.out) (by decide))) hkp (fun k_ hk_ hs_ => (hk_.2) hs_)) (fun k_ hk_ => trivial)); have n3_ := Aside0.mk (Kd.R_mono (ok' := fun k_ => True) (Kd.R_keptB ((Kd.R_apart' HO_335002.out (Kd.R_typed HO_10.out) (by decide))) hkp (fun k_ hk_ hs_ => (hk_.2) hs_)) (fun k_ hk_ => trivial)); have n4_ := Aside0.mk (blk_kept (qK BK311.out) hkp (fun hs_ => (fun e_ => (Kd.R_ne HO_10.out BK311.out (by decide)) e_) hs_)); have n5_ := Aside0.mk (blk_kept (qK BK334.out) hkp (fun hs_ => (fun e_ => (Kd.R_ne HO_10.out BK334.out (by decide)) e_) hs_)); have n6_ := Aside0.mk (hb); clear HO_6; clear HO_10; clear HO_335001; clear HO_335002; clear BK311; clear BK334; clear HB; have HO_6 := n0_; have HO_10 := n1_; have HO_335001 := n2_; have HO_335002 := n3_; have BK311 := n4_; have BK334 := n5_; have HB := n6_; clear n0_ n1_ n2_ n3_ n4_ n5_ n6_; (try clear hb); (try clear hkp); (try clear hy0)) | ((with_reducible refine gate_callee (f := 22) rfl ?_); refine goesL_ (some 86) rfl rfl Try.func22 (by kernel_rfl) rfl #[.slice Ao83 t362.length co83, .int .i64 1] rfl (by (try simp only [List.map_toArray, List.map_cons, List.map_nil]); first | done | (rw [show t362.length = t338.length from (Kd.R_reads' HO_10.out).1.symm] <;> rfl) | rfl | (simp only [List.length_drop, List.length_take]; rfl)) ?_; (with_reducible refine (laws_heldBoolS.calls kj52 _ _ t362 1 t363 _ ?side1 ?side2 A74.out).mono ?_); (case side1 => repeat (first | exact (Kd.R_reads' HO_10.out).2.2 | (with_reducible refine Kd.C_alloc ?_ _) | (with_reducible refine Kd.C_drewN ?_ _) | (with_reducible refine Kd.C_drew ?_))); (case side2 => rw [show t362.length = t338.length from (Kd.R_reads' HO_10.out).1.symm]; exact (Kd.R_reads' HO_10.out).2.1); rintro e w' ⟨rfl, ⟨nd, rfl⟩⟩; refine ⟨_, rfl, ?_⟩; have hnb85 := NB311_334.out; have hnc85 := NB334_311.out; have hcz86_0 : w84.cell? ⟨gb311, 0, none⟩ = some (.int .i64 a0_0) := (blk_cell BK311.out 0).trans rfl; have hcz86_1 : w84.cell? ⟨gb311, 1, none⟩ = some (.slice A0_1 l0_1.length c0_1) := (blk_cell BK311.out 1).trans rfl; have hcz86_2 : w84.cell? ⟨gb311, 2, none⟩ = some (.slice A0_2 l0_2.length c0_2) := (blk_cell BK311.out 2).trans rfl; have hfz86_0 := blk_frozen BK311.out 0; have hfz86_1 := blk_frozen BK311.out 1; have hfz86_2 := blk_frozen BK311.out 2) | ((with_reducible refine gate_callee (f := 13) rfl ?_); refine goesL_ (some 94) rfl rfl Try.func13 (by kernel_rfl) rfl #[.agg #[.int .i64 a0_0, .slice A0_1 l0_1.length c0_1, .slice A0_2 l0_2.length c0_2]] rfl qG ?_; (with_reducible refine (laws_toCircuit.calls kj52 a0_0 _ _ l0_1 _ _ l0_2 t364 t365 t368 _ ?side1 ?side2 ?side3 ?side4 A79.out).mono ?_); (case side1 => repeat (first | exact (Kd.C_below HR0_1.out (qB)) | (with_reducible refine Kd.C_alloc ?_ _) | (with_reducible refine Kd.C_drewN ?_ _) | (with_reducible refine Kd.C_drew ?_))); (case side2 => exact HC0_1.out); (case side3 => repeat (first | exact (Kd.C_below HR0_2.out (qB)) | (with_reducible refine Kd.C_alloc ?_ _) | (with_reducible refine Kd.C_drewN ?_ _) | (with_reducible refine Kd.C_drew ?_))); (case side4 => exact HC0_2.out); rintro e w87 ⟨v366, v369, rfl, ho0, ho1, hb⟩; refine ⟨_, rfl, ?_⟩; have n0_ := Aside0.mk (Kd.R_below (qR HO_6.out) hb); have n1_ := Aside0.mk (Kd.R_below (qR HO_10.out) hb); have n2_ := Aside0.mk (Kd.R_elder' (qR HO_335001.out) (Kd.R_base ho0) hb); have n3_ := Aside0.mk (Kd.R_elder' (qR HO_335002.out) (Kd.R_base ho1) hb); have n4_ := Aside0.mk (Kd.R_lower (Kd.R_new' ho0 (Kd.R_lt (qR HO_335001.out))) (below_size (qB))); have n5_ := Aside0.mk (Kd.R_lower (Kd.R_new' ho1 (Kd.R_lt (qR HO_335002.out))) (below_size (qB))); have n6_ := Aside0.mk (blk_below (g := gb311) (o := .cells #[.int .i64 a0_0, .slice A0_1 l0_1.length c0_1, .slice A0_2 l0_2.length c0_2] 25 (0, 0)) (qK BK311.out) hb); have n7_ := Aside0.mk (blk_below (g := gb334) (o := .cells #[.int .i64 t327, .slice Ao32 t356.length co32, .slice Ao33 t357.length co33] 30 (0, 0)) (qK BK334.out) hb); have n8_ := Aside0.mk (below_step (qB) hb); clear HO_6; clear HO_10; clear HO_335001; clear HO_335002; clear BK311; clear BK334; clear HB; have HO_6 := n0_; have HO_10 := n1_; have HO_335001 := n2_; have HO_335002 := n3_; have HO367 := n4_; have HO370 := n5_; have BK311 := n6_; have BK334 := n7_; have HB := n8_; clear n0_ n1_ n2_ n3_ n4_ n5_ n6_ n7_ n8_; (try clear hb); (try clear hb2); (try clear hk); (try clear hi); (try clear ho0); (try clear ho1)) | ((with_reducible refine gate_callee (f := 17) rfl ?_); refine goesL_ (some 96) rfl rfl Try.func17 (by kernel_rfl) rfl #[.slice A1 l1.length c1] rfl qG ?_; (with_reducible refine (laws_toBoolS.calls kj52 _ _ l1 t371 _ ?side1 ?side2 A80.out).mono ?_); (case side1 => exact qC (Kd.C_below HR1.out HB.out)); (case side2 => exact HC1.out); rintro e w88 ⟨v372, rfl, ho0, hb⟩; refine ⟨_, rfl, ?_⟩; have n0_ := Aside0.mk (Kd.R_elder' (qR HO_6.out) (Kd.R_base ho0) hb); have n1_ := Aside0.mk (Kd.R_elder' (qR HO_10.out) (Kd.R_base ho0) hb); have n2_ := Aside0.mk (Kd.R_below (qR HO_335001.out) hb); have n3_ := Aside0.mk (Kd.R_below (qR HO_335002.out) hb); have n4_ := Aside0.mk (Kd.R_below (qR HO367.out) hb); have n5_ := Aside0.mk (Kd.R_below (qR HO370.out) hb); have n6_ := Aside0.mk (Kd.R_lower (Kd.R_new' (Kd.R_new' ho0 (Kd.R_lt (qR HO_6.out))) (Kd.R_lt (qR HO_10.out))) (below_size (qB))); have n7_ := Aside0.mk (blk_below (g := gb311) (o := .cells #[.int .i64 a0_0, .slice A0_1 l0_1.length c0_1, .slice A0_2 l0_2.length c0_2] 25 (0, 0)) (qK BK311.out) hb); have n8_ := Aside0.mk (blk_below (g := gb334) (o := .cells #[.int .i64 t327, .slice Ao32 t356.length co32, .slice Ao33 t357.length co33] 30 (0, 0)) (qK BK334.out) hb); have n9_ := Aside0.mk (below_step (qB) hb); clear HO_6; clear HO_10; clear HO_335001; clear HO_335002; clear HO367; clear HO370; clear BK311; clear BK334; clear HB; have HO_6 := n0_; have HO_10 := n1_; have HO_335001 := n2_; have HO_335002 := n3_; have HO367 := n4_; have HO370 := n5_; have HO373 := n6_; have BK311 := n7_; have BK334 := n8_; have HB := n9_; clear n0_ n1_ n2_ n3_ n4_ n5_ n6_ n7_ n8_ n9_; (try clear hb); (try clear hb2); (try clear hk); (try clear hi); (try clear ho0); obtain ⟨Ao89, co89, eo89⟩ := Kd.R_slice HO367.out; subst eo89; obtain ⟨Ao90, co90, eo90⟩ := Kd.R_slice HO370.out; subst eo90; obtain ⟨Ao91, co91, eo91⟩ := Kd.R_slice HO373.out; subst eo91) | ((with_reducible refine gate_callee (f := 18) rfl ?_); refine goesL_ (some 97) rfl rfl Try.func18 (by kernel_rfl) rfl #[.agg #[.int .i64 t364, .slice Ao89 t365.length co89, .slice Ao90 t368.length co90], .slice Ao91 t371.length co91] rfl qG ?_; (with_reducible refine (impl_AllWires.calls kj52 t364 _ _ t365 _ _ t368 _ _ t371 t374 t377 _ ?side1 ?side2 ?side3 ?side4 ?side5 ?side6 A81.out).mono ?_); (case side1 => repeat (first | exact (Kd.R_reads' HO367.out).2.2 | (with_reducible refine Kd.C_alloc ?_ _) | (with_reducible refine Kd.C_drewN ?_ _) | (with_reducible refine Kd.C_drew ?_))); (case side2 => exact (Kd.R_reads' HO367.out).2.1); (case side3 => repeat (first | exact (Kd.R_reads' HO370.out).2.2 | (with_reducible refine Kd.C_alloc ?_ _) | (with_reducible refine Kd.C_drewN ?_ _) | (with_reducible refine Kd.C_drew ?_))); (case side4 => exact (Kd.R_reads' HO370.out).2.1); (case side5 => repeat (first | exact (Kd.R_reads' HO373.out).2.2 | (with_reducible refine Kd.C_alloc ?_ _) | (with_reducible refine Kd.C_drewN ?_ _) | (with_reducible refine Kd.C_drew ?_))); (case side6 => exact (Kd.R_reads' HO373.out).2.1); rintro e w92 ⟨v375, rfl, ho0, hb⟩; refine ⟨_, rfl, ?_⟩; have n0_ := Aside0.mk (Kd.R_elder' (qR HO_6.out) (Kd.R_base ho0) hb); have n1_ := Aside0.mk (Kd.R_elder' (qR HO_10.out) (Kd.R_base ho0) hb); have n2_ := Aside0.mk (Kd.R_below (qR HO_335001.out) hb); have n3_ := Aside0.mk (Kd.R_below (qR HO_335002.out) hb); have n4_ := Aside0.mk (Kd.R_below (qR HO367.out) hb); have n5_ := Aside0.mk (Kd.R_below (qR HO370.out) hb); have n6_ := Aside0.mk (Kd.R_elder' (qR HO373.out) (Kd.R_base ho0) hb); have n7_ := Aside0.mk (Kd.R_lower (Kd.R_new' (Kd.R_new' (Kd.R_new' ho0 (Kd.R_lt (qR HO_6.out))) (Kd.R_lt (qR HO_10.out))) (Kd.R_lt (qR HO373.out))) (below_size (qB))); have n8_ := Aside0.mk (blk_below (g := gb311) (o := .cells #[.int .i64 a0_0, .slice A0_1 l0_1.length c0_1, .slice A0_2 l0_2.length c0_2] 25 (0, 0)) (qK BK311.out) hb); have n9_ := Aside0.mk (blk_below (g := gb334) (o := .cells #[.int .i64 t327, .slice Ao32 t356.length co32, .slice Ao33 t357.length co33] 30 (0, 0)) (qK BK334.out) hb); have n10_ := Aside0.mk (below_step (qB) hb); clear HO_6; clear HO_10; clear HO_335001; clear HO_335002; clear HO367; clear HO370; clear HO373; clear BK311; clear BK334; clear HB; have HO_6 := n0_; have HO_10 := n1_; have HO_335001 := n2_; have HO_335002 := n3_; have HO367 := n4_; have HO370 := n5_; have HO373 := n6_; have HO376 := n7_; have BK311 := n8_; have BK334 := n9_; have HB := n10_; clear n0_ n1_ n2_ n3_ n4_ n5_ n6_ n7_ n8_ n9_ n10_; (try clear hb); (try clear hb2); (try clear hk); (try clear hi); (try clear ho0)))
                          (try simp only [Act.put, List.setIfInBounds_toArray, List.set_cons_zero, List.set_cons_succ])
                          go_cut [108] (fun v108 wc => ∃ (kq : Nat) (x108_81 : Bool), v108 = .bool x108_81 ∧ Aside0 (laws_FnExactAllWires.j2 kq t362 t361 x108_81 = some r) ∧ Aside0 (kq ≤ kj52) ∧ Aside0 (Kd.R Kd.bool 4 wc w.heap.size (fun _ => True) (.slice Ao83 t338.length co83) t362) ∧ Aside0 (Kd.R k59 59 wc w.heap.size (fun _ => True) (.slice Ao32 t356.length co32) t356) ∧ Aside0 (Kd.R (Kd.int .i64) 3 wc w.heap.size (fun _ => True) (.slice Ao33 t357.length co33) t357) ∧ Aside0 (wc.heap[gb311]? = some (.cells #[.int .i64 a0_0, (.slice A0_1 l0_1.length c0_1), (.slice A0_2 l0_2.length c0_2)] 25 (0, 0))) ∧ Aside0 (wc.heap[gb334]? = some (.cells #[.int .i64 t327, (.slice Ao32 t356.length co32), (.slice Ao33 t357.length co33)] 30 (0, 0))) ∧ Aside0 (Below w.heap.size w wc))
                          case first =>
                            have H := HC82.out
                            clear HC82
                            replace H := Option.bind_eq_some_iff.mp H
                            obtain ⟨t378, A930, H⟩ := H
                            replace H : (if t378 = true then (laws_FnExactAllWires.j2 kj52 t362 t361 (t377 != t326)) else (laws_FnExactAllWires.j2 kj52 t362 t361 true)) = some r := H
                            have A93 := Aside0.mk A930
                            clear A930
                            by_cases c94 : t378 = true
                            · subst c94
                              have H1 : (laws_FnExactAllWires.j2 kj52 t362 t361 (t377 != t326)) = some r := by rw [if_pos rfl] at H; exact H
                              clear H
                              have H := H1
                              clear H1
                              have H' := Aside0.mk H
                              clear H
                              obtain ⟨Ao95, co95, eo95⟩ := Kd.R_slice HO376.out
                              subst eo95
                              obtain ⟨Ao96, co96, eo96⟩ := Kd.R_slice HO_6.out
                              subst eo96
                              go_wp2_with (first | ((with_reducible refine gate_callee (f := 19) rfl ?_); refine goesL_ (some 102) rfl rfl Try.func19 (by kernel_rfl) rfl #[.slice Ao95 t374.length co95, .slice Ao96 t323.length co96] rfl qG ?_; (with_reducible refine (laws_eqBoolS.calls kj52 _ _ t374 _ _ t323 true _ ?side1 ?side2 ?side3 ?side4 A93.out).mono ?_); (case side1 => repeat (first | exact (Kd.R_reads' HO376.out).2.2 | (with_reducible refine Kd.C_alloc ?_ _) | (with_reducible refine Kd.C_drewN ?_ _) | (with_reducible refine Kd.C_drew ?_))); (case side2 => exact (Kd.R_reads' HO376.out).2.1); (case side3 => repeat (first | exact (Kd.R_reads' HO_6.out).2.2 | (with_reducible refine Kd.C_alloc ?_ _) | (with_reducible refine Kd.C_drewN ?_ _) | (with_reducible refine Kd.C_drew ?_))); (case side4 => exact (Kd.R_reads' HO_6.out).2.1); rintro e w' ⟨rfl, ⟨nd, rfl⟩⟩; refine ⟨_, rfl, ?_⟩))
                              go_meet
                              case rel => exact ⟨_, ((t377 != t326)), qS, H', ⟨by have := HJ15.out; have := HJ52.out; first | omega | exact Nat.le_refl _⟩, ⟨by (try simp only [hl335001_52]); (try simp only [hl335002_52]); (with_reducible repeat (first | apply Kd.R_alloc | apply Kd.R_drewN | apply Kd.R_drew)); exact Kd.R_mono HO_10.out (fun _ hk => trivial)⟩, ⟨by (try simp only [hl335001_52]); (try simp only [hl335002_52]); (with_reducible repeat (first | apply Kd.R_alloc | apply Kd.R_drewN | apply Kd.R_drew)); exact Kd.R_mono HO_335001.out (fun _ hk => trivial)⟩, ⟨by (try simp only [hl335001_52]); (try simp only [hl335002_52]); (with_reducible repeat (first | apply Kd.R_alloc | apply Kd.R_drewN | apply Kd.R_drew)); exact Kd.R_mono HO_335002.out (fun _ hk => trivial)⟩, ⟨by (try simp only [hl335001_52]); (try simp only [hl335002_52]); (with_reducible repeat (first | refine blk_drewN ?_ _ | refine blk_drew ?_ | refine blk_alloc ?_ _)); exact BK311.out⟩, ⟨by (try simp only [hl335001_52]); (try simp only [hl335002_52]); (with_reducible repeat (first | refine blk_drewN ?_ _ | refine blk_drew ?_ | refine blk_alloc ?_ _)); exact BK334.out⟩, ⟨qB⟩⟩
                            · replace c94 := Bool.eq_false_iff.mpr c94
                              subst c94
                              have H1 : (laws_FnExactAllWires.j2 kj52 t362 t361 true) = some r := by rw [if_neg (show ¬ (false = true) by decide)] at H; exact H
                              clear H
                              have H := H1
                              clear H1
                              have H' := Aside0.mk H
                              clear H
                              obtain ⟨Ao97, co97, eo97⟩ := Kd.R_slice HO376.out
                              subst eo97
                              obtain ⟨Ao98, co98, eo98⟩ := Kd.R_slice HO_6.out
                              subst eo98
                              go_wp2_with (first | ((with_reducible refine gate_callee (f := 19) rfl ?_); refine goesL_ (some 102) rfl rfl Try.func19 (by kernel_rfl) rfl #[.slice Ao97 t374.length co97, .slice Ao98 t323.length co98] rfl qG ?_; (with_reducible refine (laws_eqBoolS.calls kj52 _ _ t374 _ _ t323 false _ ?side1 ?side2 ?side3 ?side4 A93.out).mono ?_); (case side1 => repeat (first | exact (Kd.R_reads' HO376.out).2.2 | (with_reducible refine Kd.C_alloc ?_ _) | (with_reducible refine Kd.C_drewN ?_ _) | (with_reducible refine Kd.C_drew ?_))); (case side2 => exact (Kd.R_reads' HO376.out).2.1); (case side3 => repeat (first | exact (Kd.R_reads' HO_6.out).2.2 | (with_reducible refine Kd.C_alloc ?_ _) | (with_reducible refine Kd.C_drewN ?_ _) | (with_reducible refine Kd.C_drew ?_))); (case side4 => exact (Kd.R_reads' HO_6.out).2.1); rintro e w' ⟨rfl, ⟨nd, rfl⟩⟩; refine ⟨_, rfl, ?_⟩))
                              go_meet
                              case rel => exact ⟨_, (true), qS, H', ⟨by have := HJ15.out; have := HJ52.out; first | omega | exact Nat.le_refl _⟩, ⟨by (try simp only [hl335001_52]); (try simp only [hl335002_52]); (with_reducible repeat (first | apply Kd.R_alloc | apply Kd.R_drewN | apply Kd.R_drew)); exact Kd.R_mono HO_10.out (fun _ hk => trivial)⟩, ⟨by (try simp only [hl335001_52]); (try simp only [hl335002_52]); (with_reducible repeat (first | apply Kd.R_alloc | apply Kd.R_drewN | apply Kd.R_drew)); exact Kd.R_mono HO_335001.out (fun _ hk => trivial)⟩, ⟨by (try simp only [hl335001_52]); (try simp only [hl335002_52]); (with_reducible repeat (first | apply Kd.R_alloc | apply Kd.R_drewN | apply Kd.R_drew)); exact Kd.R_mono HO_335002.out (fun _ hk => trivial)⟩, ⟨by (try simp only [hl335001_52]); (try simp only [hl335002_52]); (with_reducible repeat (first | refine blk_drewN ?_ _ | refine blk_drew ?_ | refine blk_alloc ?_ _)); exact BK311.out⟩, ⟨by (try simp only [hl335001_52]); (try simp only [hl335002_52]); (with_reducible repeat (first | refine blk_drewN ?_ _ | refine blk_drew ?_ | refine blk_alloc ?_ _)); exact BK334.out⟩, ⟨qB⟩⟩
                          case rest =>
                            clear HC82
                            try clear c1
                            try clear c2
                            try clear p2
                            try clear c3
                            try clear c3b0
                            try clear c3b1
                            try clear c4
                            try clear c5
                            try clear c6
                            try clear c6b0
                            try clear c7
                            try clear c8
                            try clear c9
                            try clear c11
                            try clear c13
                            try clear c15
                            try clear c16
                            try clear c17
                            try clear c18
                            try clear c19
                            try clear c20
                            try clear c21
                            try clear c22
                            try clear c30
                            try clear c39
                            try clear c44
                            try clear c47
                            try clear c50
                            try clear c61
                            try clear c65
                            try clear c65b0
                            try clear c67
                            try clear c72
                            try clear c75
                            try clear c75b0
                            try clear c78
                            try clear c78b0
                            try clear c78b1
                            try clear c85
                            try clear c94
                            try clear hcz18_0
                            try clear hcz18_1
                            try clear hcz18_2
                            try clear hcz20_0
                            try clear hcz20_1
                            try clear hcz20_2
                            try clear hcz27_0
                            try clear hcz27_1
                            try clear hcz27_2
                            try clear hcz31_0
                            try clear hcz31_1
                            try clear hcz31_2
                            try clear hcz35_0
                            try clear hcz35_1
                            try clear hcz35_2
                            try clear hcz62_0
                            try clear hcz62_1
                            try clear hcz62_2
                            try clear hcz86_0
                            try clear hcz86_1
                            try clear hcz86_2
                            try clear hcz8_0
                            try clear hcz8_1
                            try clear hcz8_2
                            try clear hfz18_0
                            try clear hfz18_1
                            try clear hfz18_2
                            try clear hfz20_0
                            try clear hfz20_1
                            try clear hfz20_2
                            try clear hfz27_0
                            try clear hfz27_1
                            try clear hfz27_2
                            try clear hfz31_0
                            try clear hfz31_1
                            try clear hfz31_2
                            try clear hfz35_0
                            try clear hfz35_1
                            try clear hfz35_2
                            try clear hfz62_0
                            try clear hfz62_1
                            try clear hfz62_2
                            try clear hfz86_0
                            try clear hfz86_1
                            try clear hfz86_2
                            try clear hfz8_0
                            try clear hfz8_1
                            try clear hfz8_2
                            try clear p2
                            obtain ⟨kq, x108_81, rfl, HA, HJ81, HO_10, HO_335001, HO_335002, BK311, BK334, HB⟩ := hcut
                            have hl10_81 := (Kd.R_reads' HO_10.out).1
                            rw [hl10_81] at HO_10
                            (try simp only [hl10_81])
                            (try simp only [hl10_81] at BK311)
                            (try simp only [hl10_81] at BK334)
                            (try simp only [hl10_81] at HO_335001)
                            (try simp only [hl10_81] at HO_335002)
                            cases kq with
                            | zero => exact absurd HA.out (by simp [laws_FnExactAllWires.j2])
                            | succ kj81 =>
                              have H := HA.out
                              clear HA
                              simp only [laws_FnExactAllWires.j2] at H
                              by_cases c99 : x108_81 = true
                              · subst c99
                                have H1 : (some false) = some r := by rw [if_pos rfl] at H; exact H
                                clear H
                                have H := H1
                                clear H1
                                obtain rfl := Option.some.inj H
                                go_wp2
                                go_ret
                                exact ⟨qE, qB⟩
                              · replace c99 := Bool.eq_false_iff.mpr c99
                                subst c99
                                have H1 : ((laws_heldBoolS.f kj81 t362 1).bind fun t379 => (if t379 < 0 then (some false) else (if t379 = t361 then (some true) else (some false)))) = some r := by rw [if_neg (show ¬ (false = true) by decide)] at H; exact H
                                clear H
                                have H := H1
                                clear H1
                                replace H := Option.bind_eq_some_iff.mp H
                                obtain ⟨t379, A1000, H⟩ := H
                                replace H : (if t379 < 0 then (some false) else (if t379 = t361 then (some true) else (some false))) = some r := H
                                have A100 := Aside0.mk A1000
                                clear A1000
                                by_cases c101 : t379 < 0
                                · rw [if_pos c101] at H
                                  have c101b0 : decide (t379 < 0) = true := decide_eq_true c101
                                  clear c101
                                  obtain rfl := Option.some.inj H
                                  go_wp2_with (first | ((with_reducible refine gate_callee (f := 22) rfl ?_); refine goesL_ (some 111) rfl rfl Try.func22 (by kernel_rfl) rfl #[.slice Ao83 t362.length co83, .int .i64 1] rfl qG ?_; (with_reducible refine (laws_heldBoolS.calls kj81 _ _ t362 1 t379 _ ?side1 ?side2 A100.out).mono ?_); (case side1 => repeat (first | exact (Kd.R_reads' HO_10.out).2.2 | (with_reducible refine Kd.C_alloc ?_ _) | (with_reducible refine Kd.C_drewN ?_ _) | (with_reducible refine Kd.C_drew ?_))); (case side2 => exact (Kd.R_reads' HO_10.out).2.1); rintro e w' ⟨rfl, ⟨nd, rfl⟩⟩; refine ⟨_, rfl, ?_⟩))
                                  go_ret
                                  exact ⟨qE, qB⟩
                                · rw [if_neg c101] at H
                                  have c101b0 : decide (t379 < 0) = false := decide_eq_false c101
                                  clear c101
                                  by_cases c102 : t379 = t361
                                  · rw [if_pos c102] at H
                                    have c102b0 : (t379 == t361) = true := beq_iff_eq.mpr c102
                                    have c102b1 : (t379 != t361) = false := bne_eq_false_iff_eq.mpr c102
                                    clear c102
                                    obtain rfl := Option.some.inj H
                                    go_wp2_with (first | ((with_reducible refine gate_callee (f := 22) rfl ?_); refine goesL_ (some 111) rfl rfl Try.func22 (by kernel_rfl) rfl #[.slice Ao83 t362.length co83, .int .i64 1] rfl qG ?_; (with_reducible refine (laws_heldBoolS.calls kj81 _ _ t362 1 t379 _ ?side1 ?side2 A100.out).mono ?_); (case side1 => repeat (first | exact (Kd.R_reads' HO_10.out).2.2 | (with_reducible refine Kd.C_alloc ?_ _) | (with_reducible refine Kd.C_drewN ?_ _) | (with_reducible refine Kd.C_drew ?_))); (case side2 => exact (Kd.R_reads' HO_10.out).2.1); rintro e w' ⟨rfl, ⟨nd, rfl⟩⟩; refine ⟨_, rfl, ?_⟩))
                                    go_ret
                                    exact ⟨qE, qB⟩
                                  · rw [if_neg c102] at H
                                    have c102b0 : (t379 == t361) = false := beq_eq_false_iff_ne.mpr c102
                                    have c102b1 : (t379 != t361) = true := bne_iff_ne.mpr c102
                                    obtain rfl := Option.some.inj H
                                    go_wp2_with (first | ((with_reducible refine gate_callee (f := 22) rfl ?_); refine goesL_ (some 111) rfl rfl Try.func22 (by kernel_rfl) rfl #[.slice Ao83 t362.length co83, .int .i64 1] rfl qG ?_; (with_reducible refine (laws_heldBoolS.calls kj81 _ _ t362 1 t379 _ ?side1 ?side2 A100.out).mono ?_); (case side1 => repeat (first | exact (Kd.R_reads' HO_10.out).2.2 | (with_reducible refine Kd.C_alloc ?_ _) | (with_reducible refine Kd.C_drewN ?_ _) | (with_reducible refine Kd.C_drew ?_))); (case side2 => exact (Kd.R_reads' HO_10.out).2.1); rintro e w' ⟨rfl, ⟨nd, rfl⟩⟩; refine ⟨_, rfl, ?_⟩))
                                    go_ret
                                    exact ⟨qE, qB⟩
                        · rw [if_neg c78] at H
                          have c78b0 : (t363 == t361) = false := beq_eq_false_iff_ne.mpr c78
                          have c78b1 : (t363 != t361) = true := bne_iff_ne.mpr c78
                          obtain rfl := Option.some.inj H
                          obtain ⟨Ao103, co103, eo103⟩ := Kd.R_slice HO_10.out
                          subst eo103
                          go_wp2_with (first | ((with_reducible refine gate_callee (f := 21) rfl ?_); refine goesL_ (some 83) rfl rfl Try.func21 (by kernel_rfl) rfl #[.slice Ao103 t338.length co103, .int .i64 1] rfl qG ?_; (with_reducible refine (laws_markBoolS.calls kj52 (fun k_ => some k_ = (.slice Ao103 t338.length co103 : Value).ownBlock) (.slice Ao103 t338.length co103) t338 1 t361 t362 w _ ?side1 ?side2 A73.out).mono ?_); (case side1 => repeat (first | (with_reducible first | exact HB.out | apply below_alloc | apply pw_below_drewN | apply below_drew1 | refine below_set ?_ GE311.out | refine below_set ?_ GE334.out) | exact HB.out)); (case side2 => exact Kd.R_tight rfl HO_10.out); rintro e w104 ⟨rfl, hy0, hb, hkp⟩; refine ⟨_, rfl, ?_⟩; have n0_ := Aside0.mk (Kd.R_mono (ok' := fun k_ => some k_ ≠ (.slice Ao103 t338.length co103 : Value).ownBlock) (Kd.R_keptB (HO_6.out) hkp (fun k_ hk_ hs_ => (hk_) hs_)) (fun k_ hk_ => hk_.1)); have n1_ := Aside0.mk (Kd.R_reok rfl hy0 (fun k_ e_ => HO_10.out.1 k_ e_)); have n2_ := Aside0.mk (Kd.R_mono (ok' := fun k_ => True) (Kd.R_keptB ((Kd.R_apart' HO_335001.out (Kd.R_typed HO_10.out) (by decide))) hkp (fun k_ hk_ hs_ => (hk_.2) hs_)) (fun k_ hk_ => trivial)); have n3_ := Aside0.mk (Kd.R_mono (ok' := fun k_ => True) (Kd.R_keptB ((Kd.R_apart' HO_335002.out (Kd.R_typed HO_10.out) (by decide))) hkp (fun k_ hk_ hs_ => (hk_.2) hs_)) (fun k_ hk_ => trivial)); have n4_ := Aside0.mk (blk_kept (qK BK311.out) hkp (fun hs_ => (fun e_ => (Kd.R_ne HO_10.out BK311.out (by decide)) e_) hs_)); have n5_ := Aside0.mk (blk_kept (qK BK334.out) hkp (fun hs_ => (fun e_ => (Kd.R_ne HO_10.out BK334.out (by decide)) e_) hs_)); have n6_ := Aside0.mk (hb); clear HO_6; clear HO_10; clear HO_335001; clear HO_335002; clear BK311; clear BK334; clear HB; have HO_6 := n0_; have HO_10 := n1_; have HO_335001 := n2_; have HO_335002 := n3_; have BK311 := n4_; have BK334 := n5_; have HB := n6_; clear n0_ n1_ n2_ n3_ n4_ n5_ n6_; (try clear hb); (try clear hkp); (try clear hy0)) | ((with_reducible refine gate_callee (f := 22) rfl ?_); refine goesL_ (some 86) rfl rfl Try.func22 (by kernel_rfl) rfl #[.slice Ao103 t362.length co103, .int .i64 1] rfl (by (try simp only [List.map_toArray, List.map_cons, List.map_nil]); first | done | (rw [show t362.length = t338.length from (Kd.R_reads' HO_10.out).1.symm] <;> rfl) | rfl | (simp only [List.length_drop, List.length_take]; rfl)) ?_; (with_reducible refine (laws_heldBoolS.calls kj52 _ _ t362 1 t363 _ ?side1 ?side2 A74.out).mono ?_); (case side1 => repeat (first | exact (Kd.R_reads' HO_10.out).2.2 | (with_reducible refine Kd.C_alloc ?_ _) | (with_reducible refine Kd.C_drewN ?_ _) | (with_reducible refine Kd.C_drew ?_))); (case side2 => rw [show t362.length = t338.length from (Kd.R_reads' HO_10.out).1.symm]; exact (Kd.R_reads' HO_10.out).2.1); rintro e w' ⟨rfl, ⟨nd, rfl⟩⟩; refine ⟨_, rfl, ?_⟩))
                          go_ret
                          exact ⟨qE, qB⟩
              · replace c50 := Bool.eq_false_iff.mpr c50
                subst c50
                have H1 : (some false) = some r := by rw [if_neg (show ¬ (false = true) by decide)] at H; exact H
                clear H
                have H := H1
                clear H1
                obtain rfl := Option.some.inj H
                try go_wp2
                have n0_ := Aside0.mk (Kd.R_drew HO_6.out)
                have n1_ := Aside0.mk (Kd.R_drew HO_9.out)
                have n2_ := Aside0.mk (Kd.R_drew HO_10.out)
                have n3_ := Aside0.mk (Kd.R_drew HO_335001.out)
                have n4_ := Aside0.mk (Kd.R_drew HO_335002.out)
                have n5_ := Aside0.mk (blk_drew BK311.out)
                have n6_ := Aside0.mk (blk_drew BK334.out)
                have n7_ := Aside0.mk (below_drew1 HB.out)
                clear HO_6
                clear HO_9
                clear HO_10
                clear HO_335001
                clear HO_335002
                clear BK311
                clear BK334
                clear HB
                have HO_6 := n0_
                have HO_9 := n1_
                have HO_10 := n2_
                have HO_335001 := n3_
                have HO_335002 := n4_
                have BK311 := n5_
                have BK334 := n6_
                have HB := n7_
                clear n0_ n1_ n2_ n3_ n4_ n5_ n6_ n7_
                refine start_ (n := 5) (S := fun w' => w'.cell? ⟨gb334, 0, none⟩ = some (.int .i64 t327) ∧ w'.cell? ⟨gb334, 1, none⟩ = some (.slice Ao32 t328.length co32) ∧ w'.cell? ⟨gb334, 2, none⟩ = some (.slice Ao33 t331.length co33) ∧ w'.cell? ⟨gb311, 0, none⟩ = some (.int .i64 a0_0) ∧ w'.cell? ⟨gb311, 1, none⟩ = some (.slice A0_1 l0_1.length c0_1) ∧ w'.cell? ⟨gb311, 2, none⟩ = some (.slice A0_2 l0_2.length c0_2)) (ds := []) #[false, false, false, false, false] (by kernel_rfl) rfl rfl ⟨(blk_cell BK334.out 0).trans rfl, (blk_cell BK334.out 1).trans rfl, (blk_cell BK334.out 2).trans rfl, (blk_cell BK311.out 0).trans rfl, (blk_cell BK311.out 1).trans rfl, (blk_cell BK311.out 2).trans rfl⟩ (fun hHeld => ?_)
                generalize wc.drew = w105 at HO_6 HO_9 HO_10 HO_335001 HO_335002 BK311 BK334 HB hHeld ⊢
                refine take_ (i := 0) (N := some 52) (v := ?_) (a' := ?_) #[true, false, false, false, false] rfl rfl (by kernel_rfl) (fun _ _ _ h => h) (Or.inl ⟨by rfl, ?_⟩) hHeld ?_ ?_
                rotate_left
                · rintro w' ⟨s0, s1, s2, s3, s4, s5⟩
                  go_simp
                  with_reducible rfl
                rotate_left
                · simp only [Act.put, List.setIfInBounds_toArray, List.set_cons_zero, List.set_cons_succ, i64_w, i32_w]
                  rfl
                refine take_ (i := 1) (N := some 53) (v := ?_) (a' := ?_) #[true, true, false, false, false] rfl rfl (by kernel_rfl) (fun _ _ _ h => h) (Or.inl ⟨by rfl, ?_⟩) hHeld ?_ ?_
                rotate_left
                · rintro w' ⟨s0, s1, s2, s3, s4, s5⟩
                  go_simp
                  with_reducible rfl
                rotate_left
                · simp only [Act.put, List.setIfInBounds_toArray, List.set_cons_zero, List.set_cons_succ, i64_w, i32_w]
                  rfl
                refine one_ (i := 2) (N := some 54) #[true, true, true, false, false] rfl rfl (by kernel_rfl) (by decide) (fun K hK => ?_)
                refine goes_ Try.func13 (by kernel_rfl) rfl #[.agg #[.int .i64 a0_0, .slice A0_1 l0_1.length c0_1, .slice A0_2 l0_2.length c0_2]] (by rfl) rfl rfl qG ?_
                with_reducible refine (laws_toCircuit.calls kj15 a0_0 _ _ l0_1 _ _ l0_2 t343 t344 t347 _ ?side1 ?side2 ?side3 ?side4 A45.out).mono ?_
                (case side1 => exact qC (Kd.C_below HR0_1.out HB.out))
                (case side2 => exact HC0_1.out)
                (case side3 => exact qC (Kd.C_below HR0_2.out HB.out))
                (case side4 => exact HC0_2.out)
                rintro e w106 ⟨v345, v348, rfl, ho0, ho1, hb⟩
                refine ⟨_, rfl, ?_⟩
                have n0_ := Aside0.mk (Kd.R_below (qR HO_6.out) hb)
                have n1_ := Aside0.mk (Kd.R_below (qR HO_9.out) hb)
                have n2_ := Aside0.mk (Kd.R_below (qR HO_10.out) hb)
                have n3_ := Aside0.mk (Kd.R_elder' (qR HO_335001.out) (Kd.R_base ho0) hb)
                have n4_ := Aside0.mk (Kd.R_elder' (qR HO_335002.out) (Kd.R_base ho1) hb)
                have n5_ := Aside0.mk (Kd.R_lower (Kd.R_new' ho0 (Kd.R_lt (qR HO_335001.out))) (below_size (qB)))
                have n6_ := Aside0.mk (Kd.R_lower (Kd.R_new' ho1 (Kd.R_lt (qR HO_335002.out))) (below_size (qB)))
                have n7_ := Aside0.mk (blk_below (g := gb311) (o := .cells #[.int .i64 a0_0, .slice A0_1 l0_1.length c0_1, .slice A0_2 l0_2.length c0_2] 25 (0, 0)) (qK BK311.out) hb)
                have n8_ := Aside0.mk (blk_below (g := gb334) (o := .cells #[.int .i64 t327, .slice Ao32 t328.length co32, .slice Ao33 t331.length co33] 30 (0, 0)) (qK BK334.out) hb)
                have n9_ := Aside0.mk (below_step (qB) hb)
                clear HO_6
                clear HO_9
                clear HO_10
                clear HO_335001
                clear HO_335002
                clear BK311
                clear BK334
                clear HB
                have HO_6 := n0_
                have HO_9 := n1_
                have HO_10 := n2_
                have HO_335001 := n3_
                have HO_335002 := n4_
                have HO346 := n5_
                have HO349 := n6_
                have BK311 := n7_
                have BK334 := n8_
                have HB := n9_
                clear n0_ n1_ n2_ n3_ n4_ n5_ n6_ n7_ n8_ n9_
                (try clear hb)
                (try clear hb2)
                (try clear hk)
                (try clear hi)
                (try clear ho0)
                (try clear ho1)
                obtain ⟨Ao107, co107, eo107⟩ := Kd.R_slice HO346.out
                (first | subst eo107 | (injection eo107 with f1_ f2_ f3_; have f4_ := f1_.symm; have f5_ := f3_.symm; clear f1_ f2_ f3_; subst f4_; subst f5_))
                obtain ⟨Ao108, co108, eo108⟩ := Kd.R_slice HO349.out
                (first | subst eo108 | (injection eo108 with f1_ f2_ f3_; have f4_ := f1_.symm; have f5_ := f3_.symm; clear f1_ f2_ f3_; subst f4_; subst f5_))
                refine hK.out _ _ ⟨(blk_cell BK334.out 0).trans rfl, (blk_cell BK334.out 1).trans rfl, (blk_cell BK334.out 2).trans rfl, (blk_cell BK311.out 0).trans rfl, (blk_cell BK311.out 1).trans rfl, (blk_cell BK311.out 2).trans rfl⟩ (fun hHeld => ?_)
                clear hK K
                refine norm_ (a' := ?_) ?_ ?_
                rotate_left
                · show Act.put _ (some 54) _ = _
                  simp only [Act.put, List.setIfInBounds_toArray, List.set_cons_zero, List.set_cons_succ, i64_w, i32_w]
                  rfl
                refine one_ (i := 3) (N := some 55) #[true, true, true, true, false] rfl rfl (by kernel_rfl) (by decide) (fun K hK => ?_)
                refine goes_ Try.func15 (by kernel_rfl) rfl #[.agg #[.int .i64 t327, .slice Ao32 t328.length co32, .slice Ao33 t331.length co33], .agg #[.int .i64 t343, .slice Ao107 t344.length co107, .slice Ao108 t347.length co108]] (by rfl) rfl rfl qG ?_
                with_reducible refine (laws_eqCircuit.calls kj15 t327 _ _ t328 _ _ t331 t343 _ _ t344 _ _ t347 true _ ?side1 ?side2 ?side3 ?side4 ?side5 ?side6 ?side7 ?side8 A46.out).mono ?_
                (case side1 => repeat (first | exact (Kd.R_reads' HO_335001.out).2.2 | (with_reducible refine Kd.C_alloc ?_ _) | (with_reducible refine Kd.C_drewN ?_ _) | (with_reducible refine Kd.C_drew ?_)))
                (case side2 => exact (Kd.R_reads' HO_335001.out).2.1)
                (case side3 => repeat (first | exact (Kd.R_reads' HO_335002.out).2.2 | (with_reducible refine Kd.C_alloc ?_ _) | (with_reducible refine Kd.C_drewN ?_ _) | (with_reducible refine Kd.C_drew ?_)))
                (case side4 => exact (Kd.R_reads' HO_335002.out).2.1)
                (case side5 => repeat (first | exact (Kd.R_reads' HO346.out).2.2 | (with_reducible refine Kd.C_alloc ?_ _) | (with_reducible refine Kd.C_drewN ?_ _) | (with_reducible refine Kd.C_drew ?_)))
                (case side6 => exact (Kd.R_reads' HO346.out).2.1)
                (case side7 => repeat (first | exact (Kd.R_reads' HO349.out).2.2 | (with_reducible refine Kd.C_alloc ?_ _) | (with_reducible refine Kd.C_drewN ?_ _) | (with_reducible refine Kd.C_drew ?_)))
                (case side8 => exact (Kd.R_reads' HO349.out).2.1)
                rintro e w109 ⟨rfl, hb⟩
                refine ⟨_, rfl, ?_⟩
                have n0_ := Aside0.mk (Kd.R_below (qR HO_6.out) hb)
                have n1_ := Aside0.mk (Kd.R_below (qR HO_9.out) hb)
                have n2_ := Aside0.mk (Kd.R_below (qR HO_10.out) hb)
                have n3_ := Aside0.mk (Kd.R_below (qR HO_335001.out) hb)
                have n4_ := Aside0.mk (Kd.R_below (qR HO_335002.out) hb)
                have n5_ := Aside0.mk (Kd.R_below (qR HO346.out) hb)
                have n6_ := Aside0.mk (Kd.R_below (qR HO349.out) hb)
                have n7_ := Aside0.mk (blk_below (g := gb311) (o := .cells #[.int .i64 a0_0, .slice A0_1 l0_1.length c0_1, .slice A0_2 l0_2.length c0_2] 25 (0, 0)) (qK BK311.out) hb)
                have n8_ := Aside0.mk (blk_below (g := gb334) (o := .cells #[.int .i64 t327, .slice Ao32 t328.length co32, .slice Ao33 t331.length co33] 30 (0, 0)) (qK BK334.out) hb)
                have n9_ := Aside0.mk (below_step (qB) hb)
                clear HO_6
                clear HO_9
                clear HO_10
                clear HO_335001
                clear HO_335002
                clear HO346
                clear HO349
                clear BK311
                clear BK334
                clear HB
                have HO_6 := n0_
                have HO_9 := n1_
                have HO_10 := n2_
                have HO_335001 := n3_
                have HO_335002 := n4_
                have HO346 := n5_
                have HO349 := n6_
                have BK311 := n7_
                have BK334 := n8_
                have HB := n9_
                clear n0_ n1_ n2_ n3_ n4_ n5_ n6_ n7_ n8_ n9_
                (try clear hb)
                (try clear hb2)
                (try clear hk)
                (try clear hi)
                refine hK.out _ _ ⟨(blk_cell BK334.out 0).trans rfl, (blk_cell BK334.out 1).trans rfl, (blk_cell BK334.out 2).trans rfl, (blk_cell BK311.out 0).trans rfl, (blk_cell BK311.out 1).trans rfl, (blk_cell BK311.out 2).trans rfl⟩ (fun hHeld => ?_)
                clear hK K
                refine norm_ (a' := ?_) ?_ ?_
                rotate_left
                · show Act.put _ (some 55) _ = _
                  simp only [Act.put, List.setIfInBounds_toArray, List.set_cons_zero, List.set_cons_succ, i64_w, i32_w]
                  rfl
                refine pure_ (i := 4) (N := some 56) (v := ?_) (a' := ?_) #[true, true, true, true, true] rfl rfl (by kernel_rfl) (fun _ _ _ h => h) (Or.inl ⟨by rfl, ?_⟩) ?_ ?_
                rotate_left
                · intro w'
                  go_simp
                  with_reducible rfl
                rotate_left
                · simp only [Act.put, List.setIfInBounds_toArray, List.set_cons_zero, List.set_cons_succ, i64_w, i32_w]
                  rfl
                refine done_ (by kernel_rfl) ?_
                try go_wp2_with (first | ((with_reducible refine gate_callee (f := 17) rfl ?_); refine goesL_ (some 59) rfl rfl Try.func17 (by kernel_rfl) rfl #[.slice A1 l1.length c1] rfl qG ?_; (with_reducible refine (laws_toBoolS.calls kj15 _ _ l1 t351 _ ?side1 ?side2 A48.out).mono ?_); (case side1 => exact qC (Kd.C_below HR1.out HB.out)); (case side2 => exact HC1.out); rintro e w110 ⟨v352, rfl, ho0, hb⟩; refine ⟨_, rfl, ?_⟩; have n0_ := Aside0.mk (Kd.R_elder' (qR HO_6.out) (Kd.R_base ho0) hb); have n1_ := Aside0.mk (Kd.R_elder' (qR HO_9.out) (Kd.R_base ho0) hb); have n2_ := Aside0.mk (Kd.R_elder' (qR HO_10.out) (Kd.R_base ho0) hb); have n3_ := Aside0.mk (Kd.R_below (qR HO_335001.out) hb); have n4_ := Aside0.mk (Kd.R_below (qR HO_335002.out) hb); have n5_ := Aside0.mk (Kd.R_below (qR HO346.out) hb); have n6_ := Aside0.mk (Kd.R_below (qR HO349.out) hb); have n7_ := Aside0.mk (Kd.R_lower (Kd.R_new' (Kd.R_new' (Kd.R_new' ho0 (Kd.R_lt (qR HO_6.out))) (Kd.R_lt (qR HO_9.out))) (Kd.R_lt (qR HO_10.out))) (below_size (qB))); have n8_ := Aside0.mk (blk_below (g := gb311) (o := .cells #[.int .i64 a0_0, .slice A0_1 l0_1.length c0_1, .slice A0_2 l0_2.length c0_2] 25 (0, 0)) (qK BK311.out) hb); have n9_ := Aside0.mk (blk_below (g := gb334) (o := .cells #[.int .i64 t327, .slice Ao32 t328.length co32, .slice Ao33 t331.length co33] 30 (0, 0)) (qK BK334.out) hb); have n10_ := Aside0.mk (below_step (qB) hb); clear HO_6; clear HO_9; clear HO_10; clear HO_335001; clear HO_335002; clear HO346; clear HO349; clear BK311; clear BK334; clear HB; have HO_6 := n0_; have HO_9 := n1_; have HO_10 := n2_; have HO_335001 := n3_; have HO_335002 := n4_; have HO346 := n5_; have HO349 := n6_; have HO353 := n7_; have BK311 := n8_; have BK334 := n9_; have HB := n10_; clear n0_ n1_ n2_ n3_ n4_ n5_ n6_ n7_ n8_ n9_ n10_; (try clear hb); (try clear hb2); (try clear hk); (try clear hi); (try clear ho0); obtain ⟨Ao111, co111, eo111⟩ := Kd.R_slice HO353.out; subst eo111) | ((with_reducible refine gate_callee (f := 19) rfl ?_); refine goesL_ (some 60) rfl rfl Try.func19 (by kernel_rfl) rfl #[.slice Ao36 t320.length co36, .slice Ao111 t351.length co111] rfl qG ?_; (with_reducible refine (laws_eqBoolS.calls kj15 _ _ t320 _ _ t351 false _ ?side1 ?side2 ?side3 ?side4 A49.out).mono ?_); (case side1 => repeat (first | exact (Kd.R_reads' HO_9.out).2.2 | (with_reducible refine Kd.C_alloc ?_ _) | (with_reducible refine Kd.C_drewN ?_ _) | (with_reducible refine Kd.C_drew ?_))); (case side2 => exact (Kd.R_reads' HO_9.out).2.1); (case side3 => repeat (first | exact (Kd.R_reads' HO353.out).2.2 | (with_reducible refine Kd.C_alloc ?_ _) | (with_reducible refine Kd.C_drewN ?_ _) | (with_reducible refine Kd.C_drew ?_))); (case side4 => exact (Kd.R_reads' HO353.out).2.1); rintro e w' ⟨rfl, ⟨nd, rfl⟩⟩; refine ⟨_, rfl, ?_⟩))
                go_ret
                exact ⟨qE, qB⟩
            · replace c47 := Bool.eq_false_iff.mpr c47
              subst c47
              have H1 : (some false) = some r := by rw [if_neg (show ¬ (false = true) by decide)] at H; exact H
              clear H
              have H := H1
              clear H1
              obtain rfl := Option.some.inj H
              try go_wp2
              have n0_ := Aside0.mk (Kd.R_drew HO_6.out)
              have n1_ := Aside0.mk (Kd.R_drew HO_9.out)
              have n2_ := Aside0.mk (Kd.R_drew HO_10.out)
              have n3_ := Aside0.mk (Kd.R_drew HO_335001.out)
              have n4_ := Aside0.mk (Kd.R_drew HO_335002.out)
              have n5_ := Aside0.mk (blk_drew BK311.out)
              have n6_ := Aside0.mk (blk_drew BK334.out)
              have n7_ := Aside0.mk (below_drew1 HB.out)
              clear HO_6
              clear HO_9
              clear HO_10
              clear HO_335001
              clear HO_335002
              clear BK311
              clear BK334
              clear HB
              have HO_6 := n0_
              have HO_9 := n1_
              have HO_10 := n2_
              have HO_335001 := n3_
              have HO_335002 := n4_
              have BK311 := n5_
              have BK334 := n6_
              have HB := n7_
              clear n0_ n1_ n2_ n3_ n4_ n5_ n6_ n7_
              refine start_ (n := 5) (S := fun w' => w'.cell? ⟨gb334, 0, none⟩ = some (.int .i64 t327) ∧ w'.cell? ⟨gb334, 1, none⟩ = some (.slice Ao32 t328.length co32) ∧ w'.cell? ⟨gb334, 2, none⟩ = some (.slice Ao33 t331.length co33) ∧ w'.cell? ⟨gb311, 0, none⟩ = some (.int .i64 a0_0) ∧ w'.cell? ⟨gb311, 1, none⟩ = some (.slice A0_1 l0_1.length c0_1) ∧ w'.cell? ⟨gb311, 2, none⟩ = some (.slice A0_2 l0_2.length c0_2)) (ds := []) #[false, false, false, false, false] (by kernel_rfl) rfl rfl ⟨(blk_cell BK334.out 0).trans rfl, (blk_cell BK334.out 1).trans rfl, (blk_cell BK334.out 2).trans rfl, (blk_cell BK311.out 0).trans rfl, (blk_cell BK311.out 1).trans rfl, (blk_cell BK311.out 2).trans rfl⟩ (fun hHeld => ?_)
              generalize wc.drew = w112 at HO_6 HO_9 HO_10 HO_335001 HO_335002 BK311 BK334 HB hHeld ⊢
              refine take_ (i := 0) (N := some 52) (v := ?_) (a' := ?_) #[true, false, false, false, false] rfl rfl (by kernel_rfl) (fun _ _ _ h => h) (Or.inl ⟨by rfl, ?_⟩) hHeld ?_ ?_
              rotate_left
              · rintro w' ⟨s0, s1, s2, s3, s4, s5⟩
                go_simp
                with_reducible rfl
              rotate_left
              · simp only [Act.put, List.setIfInBounds_toArray, List.set_cons_zero, List.set_cons_succ, i64_w, i32_w]
                rfl
              refine take_ (i := 1) (N := some 53) (v := ?_) (a' := ?_) #[true, true, false, false, false] rfl rfl (by kernel_rfl) (fun _ _ _ h => h) (Or.inl ⟨by rfl, ?_⟩) hHeld ?_ ?_
              rotate_left
              · rintro w' ⟨s0, s1, s2, s3, s4, s5⟩
                go_simp
                with_reducible rfl
              rotate_left
              · simp only [Act.put, List.setIfInBounds_toArray, List.set_cons_zero, List.set_cons_succ, i64_w, i32_w]
                rfl
              refine one_ (i := 2) (N := some 54) #[true, true, true, false, false] rfl rfl (by kernel_rfl) (by decide) (fun K hK => ?_)
              refine goes_ Try.func13 (by kernel_rfl) rfl #[.agg #[.int .i64 a0_0, .slice A0_1 l0_1.length c0_1, .slice A0_2 l0_2.length c0_2]] (by rfl) rfl rfl qG ?_
              with_reducible refine (laws_toCircuit.calls kj15 a0_0 _ _ l0_1 _ _ l0_2 t343 t344 t347 _ ?side1 ?side2 ?side3 ?side4 A45.out).mono ?_
              (case side1 => exact qC (Kd.C_below HR0_1.out HB.out))
              (case side2 => exact HC0_1.out)
              (case side3 => exact qC (Kd.C_below HR0_2.out HB.out))
              (case side4 => exact HC0_2.out)
              rintro e w113 ⟨v345, v348, rfl, ho0, ho1, hb⟩
              refine ⟨_, rfl, ?_⟩
              have n0_ := Aside0.mk (Kd.R_below (qR HO_6.out) hb)
              have n1_ := Aside0.mk (Kd.R_below (qR HO_9.out) hb)
              have n2_ := Aside0.mk (Kd.R_below (qR HO_10.out) hb)
              have n3_ := Aside0.mk (Kd.R_elder' (qR HO_335001.out) (Kd.R_base ho0) hb)
              have n4_ := Aside0.mk (Kd.R_elder' (qR HO_335002.out) (Kd.R_base ho1) hb)
              have n5_ := Aside0.mk (Kd.R_lower (Kd.R_new' ho0 (Kd.R_lt (qR HO_335001.out))) (below_size (qB)))
              have n6_ := Aside0.mk (Kd.R_lower (Kd.R_new' ho1 (Kd.R_lt (qR HO_335002.out))) (below_size (qB)))
              have n7_ := Aside0.mk (blk_below (g := gb311) (o := .cells #[.int .i64 a0_0, .slice A0_1 l0_1.length c0_1, .slice A0_2 l0_2.length c0_2] 25 (0, 0)) (qK BK311.out) hb)
              have n8_ := Aside0.mk (blk_below (g := gb334) (o := .cells #[.int .i64 t327, .slice Ao32 t328.length co32, .slice Ao33 t331.length co33] 30 (0, 0)) (qK BK334.out) hb)
              have n9_ := Aside0.mk (below_step (qB) hb)
              clear HO_6
              clear HO_9
              clear HO_10
              clear HO_335001
              clear HO_335002
              clear BK311
              clear BK334
              clear HB
              have HO_6 := n0_
              have HO_9 := n1_
              have HO_10 := n2_
              have HO_335001 := n3_
              have HO_335002 := n4_
              have HO346 := n5_
              have HO349 := n6_
              have BK311 := n7_
              have BK334 := n8_
              have HB := n9_
              clear n0_ n1_ n2_ n3_ n4_ n5_ n6_ n7_ n8_ n9_
              (try clear hb)
              (try clear hb2)
              (try clear hk)
              (try clear hi)
              (try clear ho0)
              (try clear ho1)
              obtain ⟨Ao114, co114, eo114⟩ := Kd.R_slice HO346.out
              (first | subst eo114 | (injection eo114 with f1_ f2_ f3_; have f4_ := f1_.symm; have f5_ := f3_.symm; clear f1_ f2_ f3_; subst f4_; subst f5_))
              obtain ⟨Ao115, co115, eo115⟩ := Kd.R_slice HO349.out
              (first | subst eo115 | (injection eo115 with f1_ f2_ f3_; have f4_ := f1_.symm; have f5_ := f3_.symm; clear f1_ f2_ f3_; subst f4_; subst f5_))
              refine hK.out _ _ ⟨(blk_cell BK334.out 0).trans rfl, (blk_cell BK334.out 1).trans rfl, (blk_cell BK334.out 2).trans rfl, (blk_cell BK311.out 0).trans rfl, (blk_cell BK311.out 1).trans rfl, (blk_cell BK311.out 2).trans rfl⟩ (fun hHeld => ?_)
              clear hK K
              refine norm_ (a' := ?_) ?_ ?_
              rotate_left
              · show Act.put _ (some 54) _ = _
                simp only [Act.put, List.setIfInBounds_toArray, List.set_cons_zero, List.set_cons_succ, i64_w, i32_w]
                rfl
              refine one_ (i := 3) (N := some 55) #[true, true, true, true, false] rfl rfl (by kernel_rfl) (by decide) (fun K hK => ?_)
              refine goes_ Try.func15 (by kernel_rfl) rfl #[.agg #[.int .i64 t327, .slice Ao32 t328.length co32, .slice Ao33 t331.length co33], .agg #[.int .i64 t343, .slice Ao114 t344.length co114, .slice Ao115 t347.length co115]] (by rfl) rfl rfl qG ?_
              with_reducible refine (laws_eqCircuit.calls kj15 t327 _ _ t328 _ _ t331 t343 _ _ t344 _ _ t347 false _ ?side1 ?side2 ?side3 ?side4 ?side5 ?side6 ?side7 ?side8 A46.out).mono ?_
              (case side1 => repeat (first | exact (Kd.R_reads' HO_335001.out).2.2 | (with_reducible refine Kd.C_alloc ?_ _) | (with_reducible refine Kd.C_drewN ?_ _) | (with_reducible refine Kd.C_drew ?_)))
              (case side2 => exact (Kd.R_reads' HO_335001.out).2.1)
              (case side3 => repeat (first | exact (Kd.R_reads' HO_335002.out).2.2 | (with_reducible refine Kd.C_alloc ?_ _) | (with_reducible refine Kd.C_drewN ?_ _) | (with_reducible refine Kd.C_drew ?_)))
              (case side4 => exact (Kd.R_reads' HO_335002.out).2.1)
              (case side5 => repeat (first | exact (Kd.R_reads' HO346.out).2.2 | (with_reducible refine Kd.C_alloc ?_ _) | (with_reducible refine Kd.C_drewN ?_ _) | (with_reducible refine Kd.C_drew ?_)))
              (case side6 => exact (Kd.R_reads' HO346.out).2.1)
              (case side7 => repeat (first | exact (Kd.R_reads' HO349.out).2.2 | (with_reducible refine Kd.C_alloc ?_ _) | (with_reducible refine Kd.C_drewN ?_ _) | (with_reducible refine Kd.C_drew ?_)))
              (case side8 => exact (Kd.R_reads' HO349.out).2.1)
              rintro e w116 ⟨rfl, hb⟩
              refine ⟨_, rfl, ?_⟩
              have n0_ := Aside0.mk (Kd.R_below (qR HO_6.out) hb)
              have n1_ := Aside0.mk (Kd.R_below (qR HO_9.out) hb)
              have n2_ := Aside0.mk (Kd.R_below (qR HO_10.out) hb)
              have n3_ := Aside0.mk (Kd.R_below (qR HO_335001.out) hb)
              have n4_ := Aside0.mk (Kd.R_below (qR HO_335002.out) hb)
              have n5_ := Aside0.mk (Kd.R_below (qR HO346.out) hb)
              have n6_ := Aside0.mk (Kd.R_below (qR HO349.out) hb)
              have n7_ := Aside0.mk (blk_below (g := gb311) (o := .cells #[.int .i64 a0_0, .slice A0_1 l0_1.length c0_1, .slice A0_2 l0_2.length c0_2] 25 (0, 0)) (qK BK311.out) hb)
              have n8_ := Aside0.mk (blk_below (g := gb334) (o := .cells #[.int .i64 t327, .slice Ao32 t328.length co32, .slice Ao33 t331.length co33] 30 (0, 0)) (qK BK334.out) hb)
              have n9_ := Aside0.mk (below_step (qB) hb)
              clear HO_6
              clear HO_9
              clear HO_10
              clear HO_335001
              clear HO_335002
              clear HO346
              clear HO349
              clear BK311
              clear BK334
              clear HB
              have HO_6 := n0_
              have HO_9 := n1_
              have HO_10 := n2_
              have HO_335001 := n3_
              have HO_335002 := n4_
              have HO346 := n5_
              have HO349 := n6_
              have BK311 := n7_
              have BK334 := n8_
              have HB := n9_
              clear n0_ n1_ n2_ n3_ n4_ n5_ n6_ n7_ n8_ n9_
              (try clear hb)
              (try clear hb2)
              (try clear hk)
              (try clear hi)
              refine hK.out _ _ ⟨(blk_cell BK334.out 0).trans rfl, (blk_cell BK334.out 1).trans rfl, (blk_cell BK334.out 2).trans rfl, (blk_cell BK311.out 0).trans rfl, (blk_cell BK311.out 1).trans rfl, (blk_cell BK311.out 2).trans rfl⟩ (fun hHeld => ?_)
              clear hK K
              refine norm_ (a' := ?_) ?_ ?_
              rotate_left
              · show Act.put _ (some 55) _ = _
                simp only [Act.put, List.setIfInBounds_toArray, List.set_cons_zero, List.set_cons_succ, i64_w, i32_w]
                rfl
              refine pure_ (i := 4) (N := some 56) (v := ?_) (a' := ?_) #[true, true, true, true, true] rfl rfl (by kernel_rfl) (fun _ _ _ h => h) (Or.inl ⟨by rfl, ?_⟩) ?_ ?_
              rotate_left
              · intro w'
                go_simp
                with_reducible rfl
              rotate_left
              · simp only [Act.put, List.setIfInBounds_toArray, List.set_cons_zero, List.set_cons_succ, i64_w, i32_w]
                rfl
              refine done_ (by kernel_rfl) ?_
              try go_wp2
              go_ret
              exact ⟨qE, qB⟩
/-- THE PURE STATEMENT of laws_FnExactAllWires. -/
def laws_FnExactAllWires.Pure : Prop := ∀ (a0_0 : Int) (l0_1 : List (S82)) (l0_2 : List Int) (l1 : List Bool), (Lit.int .i64 a0_0).wf = true → ((l0_1).length ≤ maxLen ∧ ∀ y ∈ l0_1, wf82 y) → ((l0_2).length ≤ maxLen ∧ ∀ y ∈ l0_2, (Lit.int .i64 y).wf = true) → ((l1).length ≤ maxLen ∧ ∀ y ∈ l1, True) → ∃ k, laws_FnExactAllWires.f k a0_0 l0_1 l0_2 l1 = some true
theorem laws_FnExactAllWires.walk (P : laws_FnExactAllWires.Pure) (a0_0 : Int) (A0_1 : Option Addr) (c0_1 : Nat) (l0_1 : List (S82)) (A0_2 : Option Addr) (c0_2 : Nat) (l0_2 : List Int) (A1 : Option Addr) (c1 : Nat) (l1 : List Bool) (w : World) (hr0_1 : Kd.C k82 w A0_1 l0_1.length l0_1) (hc0_1 : l0_1.length ≤ c0_1) (hr0_2 : Kd.C (Kd.int .i64) w A0_2 l0_2.length l0_2) (hc0_2 : l0_2.length ≤ c0_2) (hr1 : Kd.C Kd.bool w A1 l1.length l1) (hc1 : l1.length ≤ c1) (w0_0 : (Lit.int .i64 a0_0).wf = true) (w0_1 : ((l0_1).length ≤ maxLen ∧ ∀ y ∈ l0_1, wf82 y)) (w0_2 : ((l0_2).length ≤ maxLen ∧ ∀ y ∈ l0_2, (Lit.int .i64 y).wf = true)) (w1 : ((l1).length ≤ maxLen ∧ ∀ y ∈ l1, True)) :
    Calls Try.prog 4 #[.agg #[.int .i64 a0_0, .slice A0_1 l0_1.length c0_1, .slice A0_2 l0_2.length c0_2], .slice A1 l1.length c1] w fun e w' => e = .returned (.bool true) ∧ Below w.heap.size w w' := by
  obtain ⟨k, h⟩ := P a0_0 l0_1 l0_2 l1 w0_0 w0_1 w0_2 w1
  refine (laws_FnExactAllWires.calls k a0_0 A0_1 c0_1 l0_1 A0_2 c0_2 l0_2 A1 c1 l1 true w hr0_1 hc0_1 hr0_2 hc0_2 hr1 hc1 h).mono ?_
  rintro e w' ⟨rfl, hd⟩
  exact ⟨rfl, hd⟩

end Go.Proofs.Ytimkjhdopncimaa.X
