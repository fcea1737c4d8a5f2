/- Each Go function as a Lean function, with the proof that the call comes to just its answer; or a law's row out of its pure statement. Conditions: the arguments are of their kinds. Written by this session's program wip/xp/xp.sh. -/
import Derived.Test.YtdmngodinbelfaaX0
import Derived.Test.YtdmngodinbelfaaX1
import Derived.Test.YtdmngodinbelfaaX3
import Derived.Test.YtdmngodinbelfaaX7
import Derived.Test.YtdmngodinbelfaaX13
import Derived.Test.YtdmngodinbelfaaX31
import Derived.Test.YtdmngodinbelfaaX38
namespace Go.Proofs.Ytdmngodinbelfaa.X
open Go.RowKit Go.Proofs.YtdmngodinbelfaaW.PrintWords Go.Proofs.YtdmngodinbelfaaW.PrintLast Go.Proofs.YtdmngodinbelfaaW.PrintMore
attribute [local go_sem] max2_int min2_int max_two min_two max_three min_three max_four min_four   -- for this text's walks alone
set_option linter.unusedVariables false
set_option linter.unusedSimpArgs false

/-! ### laws_FnExactSolve: function 7 -/
mutual
def laws_FnExactSolve.j0 : Nat → Int → Int → List Bool → Int → Bool → Int → List Bool → Int → Bool → Bool → Int → List (List Int) → Int → List (List Int) → Option (Bool)
  | 0, _, _, _, _, _, _, _, _, _, _, _, _, _, _ => none
  | k + 1, x1, x6, x7, x8, x9, x11, x12, x13, x14, x64, x429000, x429001, x445000, x445001 => if x64 = true then (some false) else ((laws_toCnf.f k x429000 x429001).bind fun bt452 => ((laws_eqCnf.f k x445000 x445001 bt452.1 bt452.2).bind fun t456 => (if t456 = true then ((laws_markCnf.f x445000 x445001 1).bind fun t457 => (if t457 < 0 then (laws_FnExactSolve.j1 k x1 x6 x7 x8 x9 x12 true x429000 x429001) else (if x11 = x6 then ((laws_eqBoolS.f k x12 x7).bind fun t458 => (if t458 = true then (if x13 = x8 then (laws_FnExactSolve.j1 k x1 x6 x7 x8 x9 x12 (x14 != x9) x429000 x429001) else (laws_FnExactSolve.j1 k x1 x6 x7 x8 x9 x12 true x429000 x429001)) else (laws_FnExactSolve.j1 k x1 x6 x7 x8 x9 x12 true x429000 x429001))) else (laws_FnExactSolve.j1 k x1 x6 x7 x8 x9 x12 true x429000 x429001)))) else (some false))))
def laws_FnExactSolve.j1 : Nat → Int → Int → List Bool → Int → Bool → List Bool → Bool → Int → List (List Int) → Option (Bool)
  | 0, _, _, _, _, _, _, _, _, _ => none
  | k + 1, x1, x6, x7, x8, x9, x12, x95, x429000, x429001 => if x95 = true then (some false) else ((laws_markBoolS.f k x12 1).bind fun bt459 => ((laws_heldBoolS.f k bt459.2 1).bind fun t461 => (if t461 < 0 then (some false) else (if t461 = bt459.1 then ((laws_toCnf.f k x429000 x429001).bind fun bt462 => ((impl_Solve.f k bt462.1 bt462.2 x1).bind fun bt466 => (if bt466.1 = x6 then ((laws_eqBoolS.f k bt466.2.1 x7).bind fun t472 => (if t472 = true then (if bt466.2.2.1 = x8 then (laws_FnExactSolve.j2 k bt459.2 bt459.1 (bt466.2.2.2 != x9)) else (laws_FnExactSolve.j2 k bt459.2 bt459.1 true)) else (laws_FnExactSolve.j2 k bt459.2 bt459.1 true))) else (laws_FnExactSolve.j2 k bt459.2 bt459.1 true)))) else (some false)))))
def laws_FnExactSolve.j2 : Nat → List Bool → Int → Bool → Option (Bool)
  | 0, _, _, _ => none
  | k + 1, x12, x16, x134 => if x134 = true then (some false) else ((laws_heldBoolS.f k x12 1).bind fun t473 => (if t473 < 0 then (some false) else (if t473 = x16 then (some true) else (some false))))
end
def laws_FnExactSolve.f (k : Nat) (a0_0 : Int) (l0_1 : List (List Int)) (a1 : Int) : Option (Bool) := (laws_szCnf.f k a0_0 l0_1 1048576).bind fun t429 => (if t429 < 0 then (some true) else ((laws_toCnf.f k a0_0 l0_1).bind fun bt430 => ((spec_Solve.f k bt430.1 bt430.2 a1).bind fun bt434 => ((laws_toCnf.f k a0_0 l0_1).bind fun bt440 => ((impl_Solve.f k bt440.1 bt440.2 a1).bind fun bt445 => (if bt445.1 = bt434.1 then ((laws_eqBoolS.f k bt445.2.1 bt434.2.1).bind fun t451 => (if t451 = true then (if bt445.2.2.1 = bt434.2.2.1 then (laws_FnExactSolve.j0 k a1 bt434.1 bt434.2.1 bt434.2.2.1 bt434.2.2.2 bt445.1 bt445.2.1 bt445.2.2.1 bt445.2.2.2 (bt445.2.2.2 != bt434.2.2.2) a0_0 l0_1 bt440.1 bt440.2) else (laws_FnExactSolve.j0 k a1 bt434.1 bt434.2.1 bt434.2.2.1 bt434.2.2.2 bt445.1 bt445.2.1 bt445.2.2.1 bt445.2.2.2 true a0_0 l0_1 bt440.1 bt440.2)) else (laws_FnExactSolve.j0 k a1 bt434.1 bt434.2.1 bt434.2.2.1 bt434.2.2.2 bt445.1 bt445.2.1 bt445.2.2.1 bt445.2.2.2 true a0_0 l0_1 bt440.1 bt440.2))) else (laws_FnExactSolve.j0 k a1 bt434.1 bt434.2.1 bt434.2.2.1 bt434.2.2.2 bt445.1 bt445.2.1 bt445.2.2.1 bt445.2.2.2 true a0_0 l0_1 bt440.1 bt440.2)))))))
theorem laws_FnExactSolve.mono_l : ∀ k, (∀ y0 y1 y2 y3 y4 y5 y6 y7 y8 y9 y10 y11 y12 y13, LeO (laws_FnExactSolve.j0 k y0 y1 y2 y3 y4 y5 y6 y7 y8 y9 y10 y11 y12 y13) (laws_FnExactSolve.j0 (k + 1) y0 y1 y2 y3 y4 y5 y6 y7 y8 y9 y10 y11 y12 y13)) ∧ (∀ y0 y1 y2 y3 y4 y5 y6 y7 y8, LeO (laws_FnExactSolve.j1 k y0 y1 y2 y3 y4 y5 y6 y7 y8) (laws_FnExactSolve.j1 (k + 1) y0 y1 y2 y3 y4 y5 y6 y7 y8)) ∧ (∀ y0 y1 y2, LeO (laws_FnExactSolve.j2 k y0 y1 y2) (laws_FnExactSolve.j2 (k + 1) y0 y1 y2))
  | 0 => ⟨fun _ _ _ _ _ _ _ _ _ _ _ _ _ _ r h => by simp [laws_FnExactSolve.j0] at h, fun _ _ _ _ _ _ _ _ _ r h => by simp [laws_FnExactSolve.j1] at h, fun _ _ _ r h => by simp [laws_FnExactSolve.j2] at h⟩
  | k + 1 => by
    obtain ⟨ih0, ih1, ih2⟩ := laws_FnExactSolve.mono_l k
    refine ⟨?_, ?_, ?_⟩
    · intro y0 y1 y2 y3 y4 y5 y6 y7 y8 y9 y10 y11 y12 y13
      unfold laws_FnExactSolve.j0
      repeat' first
      | (with_reducible exact ih0 _ _ _ _ _ _ _ _ _ _ _ _ _ _)
      | (with_reducible exact ih1 _ _ _ _ _ _ _ _ _)
      | (with_reducible exact ih2 _ _ _)
      | (with_reducible exact impl_Solve.mono _ _ _ _)
      | (with_reducible exact laws_eqBoolS.mono _ _ _)
      | (with_reducible exact laws_eqCnf.mono _ _ _ _ _)
      | (with_reducible exact laws_heldBoolS.mono _ _ _)
      | (with_reducible exact laws_markBoolS.mono _ _ _)
      | (with_reducible exact laws_szCnf.mono _ _ _ _)
      | (with_reducible exact laws_toCnf.mono _ _ _)
      | (with_reducible exact spec_Solve.mono _ _ _ _)
      | (with_reducible exact LeO.refl _)
      | (with_reducible exact LeO.none _)
      | (with_reducible refine LeO.ite ?_ ?_)
      | (with_reducible refine LeO.bind ?_ (fun _ => ?_))
      | exact ih0 _ _ _ _ _ _ _ _ _ _ _ _ _ _
      | exact ih1 _ _ _ _ _ _ _ _ _
      | exact ih2 _ _ _
      | exact impl_Solve.mono _ _ _ _
      | exact laws_eqBoolS.mono _ _ _
      | exact laws_eqCnf.mono _ _ _ _ _
      | exact laws_heldBoolS.mono _ _ _
      | exact laws_markBoolS.mono _ _ _
      | exact laws_szCnf.mono _ _ _ _
      | exact laws_toCnf.mono _ _ _
      | exact spec_Solve.mono _ _ _ _
      | exact LeO.none _
      | refine LeO.ite ?_ ?_
      | refine LeO.bind ?_ (fun _ => ?_)
    · intro y0 y1 y2 y3 y4 y5 y6 y7 y8
      unfold laws_FnExactSolve.j1
      repeat' first
      | (with_reducible exact ih0 _ _ _ _ _ _ _ _ _ _ _ _ _ _)
      | (with_reducible exact ih1 _ _ _ _ _ _ _ _ _)
      | (with_reducible exact ih2 _ _ _)
      | (with_reducible exact impl_Solve.mono _ _ _ _)
      | (with_reducible exact laws_eqBoolS.mono _ _ _)
      | (with_reducible exact laws_eqCnf.mono _ _ _ _ _)
      | (with_reducible exact laws_heldBoolS.mono _ _ _)
      | (with_reducible exact laws_markBoolS.mono _ _ _)
      | (with_reducible exact laws_szCnf.mono _ _ _ _)
      | (with_reducible exact laws_toCnf.mono _ _ _)
      | (with_reducible exact spec_Solve.mono _ _ _ _)
      | (with_reducible exact LeO.refl _)
      | (with_reducible exact LeO.none _)
      | (with_reducible refine LeO.ite ?_ ?_)
      | (with_reducible refine LeO.bind ?_ (fun _ => ?_))
      | exact ih0 _ _ _ _ _ _ _ _ _ _ _ _ _ _
      | exact ih1 _ _ _ _ _ _ _ _ _
      | exact ih2 _ _ _
      | exact impl_Solve.mono _ _ _ _
      | exact laws_eqBoolS.mono _ _ _
      | exact laws_eqCnf.mono _ _ _ _ _
      | exact laws_heldBoolS.mono _ _ _
      | exact laws_markBoolS.mono _ _ _
      | exact laws_szCnf.mono _ _ _ _
      | exact laws_toCnf.mono _ _ _
      | exact spec_Solve.mono _ _ _ _
      | exact LeO.none _
      | refine LeO.ite ?_ ?_
      | refine LeO.bind ?_ (fun _ => ?_)
    · intro y0 y1 y2
      unfold laws_FnExactSolve.j2
      repeat' first
      | (with_reducible exact ih0 _ _ _ _ _ _ _ _ _ _ _ _ _ _)
      | (with_reducible exact ih1 _ _ _ _ _ _ _ _ _)
      | (with_reducible exact ih2 _ _ _)
      | (with_reducible exact impl_Solve.mono _ _ _ _)
      | (with_reducible exact laws_eqBoolS.mono _ _ _)
      | (with_reducible exact laws_eqCnf.mono _ _ _ _ _)
      | (with_reducible exact laws_heldBoolS.mono _ _ _)
      | (with_reducible exact laws_markBoolS.mono _ _ _)
      | (with_reducible exact laws_szCnf.mono _ _ _ _)
      | (with_reducible exact laws_toCnf.mono _ _ _)
      | (with_reducible exact spec_Solve.mono _ _ _ _)
      | (with_reducible exact LeO.refl _)
      | (with_reducible exact LeO.none _)
      | (with_reducible refine LeO.ite ?_ ?_)
      | (with_reducible refine LeO.bind ?_ (fun _ => ?_))
      | exact ih0 _ _ _ _ _ _ _ _ _ _ _ _ _ _
      | exact ih1 _ _ _ _ _ _ _ _ _
      | exact ih2 _ _ _
      | exact impl_Solve.mono _ _ _ _
      | exact laws_eqBoolS.mono _ _ _
      | exact laws_eqCnf.mono _ _ _ _ _
      | exact laws_heldBoolS.mono _ _ _
      | exact laws_markBoolS.mono _ _ _
      | exact laws_szCnf.mono _ _ _ _
      | exact laws_toCnf.mono _ _ _
      | exact spec_Solve.mono _ _ _ _
      | exact LeO.none _
      | refine LeO.ite ?_ ?_
      | refine LeO.bind ?_ (fun _ => ?_)
theorem laws_FnExactSolve.mono : ∀ a0 a1 a2 k, LeO (laws_FnExactSolve.f k a0 a1 a2) (laws_FnExactSolve.f (k + 1) a0 a1 a2) := by
  intro a0 a1 a2 k
  obtain ⟨ih0, ih1, ih2⟩ := laws_FnExactSolve.mono_l k
  unfold laws_FnExactSolve.f
  repeat' first
      | (with_reducible exact ih0 _ _ _ _ _ _ _ _ _ _ _ _ _ _)
      | (with_reducible exact ih1 _ _ _ _ _ _ _ _ _)
      | (with_reducible exact ih2 _ _ _)
      | (with_reducible exact impl_Solve.mono _ _ _ _)
      | (with_reducible exact laws_eqBoolS.mono _ _ _)
      | (with_reducible exact laws_eqCnf.mono _ _ _ _ _)
      | (with_reducible exact laws_heldBoolS.mono _ _ _)
      | (with_reducible exact laws_markBoolS.mono _ _ _)
      | (with_reducible exact laws_szCnf.mono _ _ _ _)
      | (with_reducible exact laws_toCnf.mono _ _ _)
      | (with_reducible exact spec_Solve.mono _ _ _ _)
      | (with_reducible exact LeO.refl _)
      | (with_reducible exact LeO.none _)
      | (with_reducible refine LeO.ite ?_ ?_)
      | (with_reducible refine LeO.bind ?_ (fun _ => ?_))
      | exact ih0 _ _ _ _ _ _ _ _ _ _ _ _ _ _
      | exact ih1 _ _ _ _ _ _ _ _ _
      | exact ih2 _ _ _
      | exact impl_Solve.mono _ _ _ _
      | exact laws_eqBoolS.mono _ _ _
      | exact laws_eqCnf.mono _ _ _ _ _
      | exact laws_heldBoolS.mono _ _ _
      | exact laws_markBoolS.mono _ _ _
      | exact laws_szCnf.mono _ _ _ _
      | exact laws_toCnf.mono _ _ _
      | exact spec_Solve.mono _ _ _ _
      | exact LeO.none _
      | refine LeO.ite ?_ ?_
      | refine LeO.bind ?_ (fun _ => ?_)
set_option maxHeartbeats 8000000 in
set_option maxRecDepth 100000 in
theorem laws_FnExactSolve.calls (k : Nat) (a0_0 : Int) (A0_1 : Option Addr) (c0_1 : Nat) (l0_1 : List (List Int)) (a1 : Int) (r : Bool) (w : World) (hr0_1 : Kd.C (Kd.slice 3 (Kd.int .i64)) w A0_1 l0_1.length l0_1) (hc0_1 : l0_1.length ≤ c0_1) (h : laws_FnExactSolve.f k a0_0 l0_1 a1 = some r) :
    Calls Try.prog 7 #[.agg #[.int .i64 a0_0, .slice A0_1 l0_1.length c0_1], .int .i64 a1] w fun e w' => e = .returned (.bool r) ∧ Below w.heap.size w w' := by
  have hu24 := Try.underlying24
  have hu27 := Try.underlying27
  have HR0_1 := Aside0.mk hr0_1
  have HC0_1 := Aside0.mk hc0_1
  clear hr0_1 hc0_1
  have HB := Aside0.mk (Below.refl w.heap.size w)
  have H : ((laws_szCnf.f k a0_0 l0_1 1048576).bind fun t429 => (if t429 < 0 then (some true) else ((laws_toCnf.f k a0_0 l0_1).bind fun bt430 => ((spec_Solve.f k bt430.1 bt430.2 a1).bind fun bt434 => ((laws_toCnf.f k a0_0 l0_1).bind fun bt440 => ((impl_Solve.f k bt440.1 bt440.2 a1).bind fun bt445 => (if bt445.1 = bt434.1 then ((laws_eqBoolS.f k bt445.2.1 bt434.2.1).bind fun t451 => (if t451 = true then (if bt445.2.2.1 = bt434.2.2.1 then (laws_FnExactSolve.j0 k a1 bt434.1 bt434.2.1 bt434.2.2.1 bt434.2.2.2 bt445.1 bt445.2.1 bt445.2.2.1 bt445.2.2.2 (bt445.2.2.2 != bt434.2.2.2) a0_0 l0_1 bt440.1 bt440.2) else (laws_FnExactSolve.j0 k a1 bt434.1 bt434.2.1 bt434.2.2.1 bt434.2.2.2 bt445.1 bt445.2.1 bt445.2.2.1 bt445.2.2.2 true a0_0 l0_1 bt440.1 bt440.2)) else (laws_FnExactSolve.j0 k a1 bt434.1 bt434.2.1 bt434.2.2.1 bt434.2.2.2 bt445.1 bt445.2.1 bt445.2.2.1 bt445.2.2.2 true a0_0 l0_1 bt440.1 bt440.2))) else (laws_FnExactSolve.j0 k a1 bt434.1 bt434.2.1 bt434.2.2.1 bt434.2.2.2 bt445.1 bt445.2.1 bt445.2.2.1 bt445.2.2.2 true a0_0 l0_1 bt440.1 bt440.2)))))))) = some r := h
  clear h
  replace H := Option.bind_eq_some_iff.mp H
  obtain ⟨t429, A30, H⟩ := H
  replace H : (if t429 < 0 then (some true) else ((laws_toCnf.f k a0_0 l0_1).bind fun bt430 => ((spec_Solve.f k bt430.1 bt430.2 a1).bind fun bt434 => ((laws_toCnf.f k a0_0 l0_1).bind fun bt440 => ((impl_Solve.f k bt440.1 bt440.2 a1).bind fun bt445 => (if bt445.1 = bt434.1 then ((laws_eqBoolS.f k bt445.2.1 bt434.2.1).bind fun t451 => (if t451 = true then (if bt445.2.2.1 = bt434.2.2.1 then (laws_FnExactSolve.j0 k a1 bt434.1 bt434.2.1 bt434.2.2.1 bt434.2.2.2 bt445.1 bt445.2.1 bt445.2.2.1 bt445.2.2.2 (bt445.2.2.2 != bt434.2.2.2) a0_0 l0_1 bt440.1 bt440.2) else (laws_FnExactSolve.j0 k a1 bt434.1 bt434.2.1 bt434.2.2.1 bt434.2.2.2 bt445.1 bt445.2.1 bt445.2.2.1 bt445.2.2.2 true a0_0 l0_1 bt440.1 bt440.2)) else (laws_FnExactSolve.j0 k a1 bt434.1 bt434.2.1 bt434.2.2.1 bt434.2.2.2 bt445.1 bt445.2.1 bt445.2.2.1 bt445.2.2.2 true a0_0 l0_1 bt440.1 bt440.2))) else (laws_FnExactSolve.j0 k a1 bt434.1 bt434.2.1 bt434.2.2.1 bt434.2.2.2 bt445.1 bt445.2.1 bt445.2.2.1 bt445.2.2.2 true a0_0 l0_1 bt440.1 bt440.2))))))) = some r := H
  have A3 := Aside0.mk A30
  clear A30
  by_cases c4 : t429 < 0
  · rw [if_pos c4] at H
    have c4b0 : decide (t429 < 0) = true := decide_eq_true c4
    clear c4
    obtain rfl := Option.some.inj H
    go_enter Try.func7, Try.ntmps7
    go_wp2_with (first | ((with_reducible refine gate_dst (N := 2) rfl ?_); refine box_event ?hg (N := 2) ?hd (cs := #[.int .i64 a0_0, .slice A0_1 l0_1.length c0_1]) (t := 24) ?hr ?_; (case hd => rfl); (case hg => rfl); (case hr => first | (go_simp; done) | (go_simp; rfl)); intro gb428 hg w5 hbox hb; have n0_ := Aside0.mk (below_step (qB) hb); have n1_ := Aside0.mk (hbox); have n2_ := Aside0.mk ((by rw [hg]; exact (below_size (qB)) : w.heap.size ≤ gb428)); have n3_ := Aside0.mk ((by rw [hg]; exact (below_size (qB)) : w.heap.size ≤ gb428)); clear HB; have HB := n0_; have BK428 := n1_; have GW428 := n2_; have GE428 := n3_; clear n0_ n1_ n2_ n3_; clear hb hbox hg; have hcz6_0 : w5.cell? ⟨gb428, 0, none⟩ = some (.int .i64 a0_0) := (blk_cell BK428.out 0).trans rfl; have hcz6_1 : w5.cell? ⟨gb428, 1, none⟩ = some (.slice A0_1 l0_1.length c0_1) := (blk_cell BK428.out 1).trans rfl; have hfz6_0 := blk_frozen BK428.out 0; have hfz6_1 := blk_frozen BK428.out 1) | ((with_reducible refine gate_callee (f := 9) rfl ?_); refine goesL_ (some 24) rfl rfl Try.func9 (by kernel_rfl) rfl #[.agg #[.int .i64 a0_0, .slice A0_1 l0_1.length c0_1], .int .i64 1048576] rfl qG ?_; (with_reducible refine (laws_szCnf.calls k a0_0 _ _ l0_1 1048576 t429 _ ?side1 ?side2 A3.out).mono ?_); (case side1 => exact qC (Kd.C_below HR0_1.out HB.out)); (case side2 => exact HC0_1.out); rintro e w7 ⟨rfl, hb⟩; refine ⟨_, rfl, ?_⟩; have n0_ := Aside0.mk (blk_below (g := gb428) (o := .cells #[.int .i64 a0_0, .slice A0_1 l0_1.length c0_1] 24 (0, 0)) (qK BK428.out) hb); have n1_ := Aside0.mk (below_step (qB) hb); clear BK428; clear HB; have BK428 := n0_; have HB := n1_; clear n0_ n1_; (try clear hb); (try clear hb2); (try clear hk); (try clear hi)))
    go_ret
    exact ⟨qE, qB⟩
  · rw [if_neg c4] at H
    have c4b0 : decide (t429 < 0) = false := decide_eq_false c4
    clear c4
    replace H := Option.bind_eq_some_iff.mp H
    obtain ⟨⟨t430, t431⟩, A80, H⟩ := H
    replace H : ((spec_Solve.f k t430 t431 a1).bind fun bt434 => ((laws_toCnf.f k a0_0 l0_1).bind fun bt440 => ((impl_Solve.f k bt440.1 bt440.2 a1).bind fun bt445 => (if bt445.1 = bt434.1 then ((laws_eqBoolS.f k bt445.2.1 bt434.2.1).bind fun t451 => (if t451 = true then (if bt445.2.2.1 = bt434.2.2.1 then (laws_FnExactSolve.j0 k a1 bt434.1 bt434.2.1 bt434.2.2.1 bt434.2.2.2 bt445.1 bt445.2.1 bt445.2.2.1 bt445.2.2.2 (bt445.2.2.2 != bt434.2.2.2) a0_0 l0_1 bt440.1 bt440.2) else (laws_FnExactSolve.j0 k a1 bt434.1 bt434.2.1 bt434.2.2.1 bt434.2.2.2 bt445.1 bt445.2.1 bt445.2.2.1 bt445.2.2.2 true a0_0 l0_1 bt440.1 bt440.2)) else (laws_FnExactSolve.j0 k a1 bt434.1 bt434.2.1 bt434.2.2.1 bt434.2.2.2 bt445.1 bt445.2.1 bt445.2.2.1 bt445.2.2.2 true a0_0 l0_1 bt440.1 bt440.2))) else (laws_FnExactSolve.j0 k a1 bt434.1 bt434.2.1 bt434.2.2.1 bt434.2.2.2 bt445.1 bt445.2.1 bt445.2.2.1 bt445.2.2.2 true a0_0 l0_1 bt440.1 bt440.2))))) = some r := H
    have A8 := Aside0.mk A80
    clear A80
    replace H := Option.bind_eq_some_iff.mp H
    obtain ⟨⟨t434, t435, t438, t439⟩, A90, H⟩ := H
    replace H : ((laws_toCnf.f k a0_0 l0_1).bind fun bt440 => ((impl_Solve.f k bt440.1 bt440.2 a1).bind fun bt445 => (if bt445.1 = t434 then ((laws_eqBoolS.f k bt445.2.1 t435).bind fun t451 => (if t451 = true then (if bt445.2.2.1 = t438 then (laws_FnExactSolve.j0 k a1 t434 t435 t438 t439 bt445.1 bt445.2.1 bt445.2.2.1 bt445.2.2.2 (bt445.2.2.2 != t439) a0_0 l0_1 bt440.1 bt440.2) else (laws_FnExactSolve.j0 k a1 t434 t435 t438 t439 bt445.1 bt445.2.1 bt445.2.2.1 bt445.2.2.2 true a0_0 l0_1 bt440.1 bt440.2)) else (laws_FnExactSolve.j0 k a1 t434 t435 t438 t439 bt445.1 bt445.2.1 bt445.2.2.1 bt445.2.2.2 true a0_0 l0_1 bt440.1 bt440.2))) else (laws_FnExactSolve.j0 k a1 t434 t435 t438 t439 bt445.1 bt445.2.1 bt445.2.2.1 bt445.2.2.2 true a0_0 l0_1 bt440.1 bt440.2)))) = some r := H
    have A9 := Aside0.mk A90
    clear A90
    replace H := Option.bind_eq_some_iff.mp H
    obtain ⟨⟨t440, t441⟩, A100, H⟩ := H
    replace H : ((impl_Solve.f k t440 t441 a1).bind fun bt445 => (if bt445.1 = t434 then ((laws_eqBoolS.f k bt445.2.1 t435).bind fun t451 => (if t451 = true then (if bt445.2.2.1 = t438 then (laws_FnExactSolve.j0 k a1 t434 t435 t438 t439 bt445.1 bt445.2.1 bt445.2.2.1 bt445.2.2.2 (bt445.2.2.2 != t439) a0_0 l0_1 t440 t441) else (laws_FnExactSolve.j0 k a1 t434 t435 t438 t439 bt445.1 bt445.2.1 bt445.2.2.1 bt445.2.2.2 true a0_0 l0_1 t440 t441)) else (laws_FnExactSolve.j0 k a1 t434 t435 t438 t439 bt445.1 bt445.2.1 bt445.2.2.1 bt445.2.2.2 true a0_0 l0_1 t440 t441))) else (laws_FnExactSolve.j0 k a1 t434 t435 t438 t439 bt445.1 bt445.2.1 bt445.2.2.1 bt445.2.2.2 true a0_0 l0_1 t440 t441))) = some r := H
    have A10 := Aside0.mk A100
    clear A100
    replace H := Option.bind_eq_some_iff.mp H
    obtain ⟨⟨t445, t446, t449, t450⟩, A110, H⟩ := H
    replace H : (if t445 = t434 then ((laws_eqBoolS.f k t446 t435).bind fun t451 => (if t451 = true then (if t449 = t438 then (laws_FnExactSolve.j0 k a1 t434 t435 t438 t439 t445 t446 t449 t450 (t450 != t439) a0_0 l0_1 t440 t441) else (laws_FnExactSolve.j0 k a1 t434 t435 t438 t439 t445 t446 t449 t450 true a0_0 l0_1 t440 t441)) else (laws_FnExactSolve.j0 k a1 t434 t435 t438 t439 t445 t446 t449 t450 true a0_0 l0_1 t440 t441))) else (laws_FnExactSolve.j0 k a1 t434 t435 t438 t439 t445 t446 t449 t450 true a0_0 l0_1 t440 t441)) = some r := H
    have A11 := Aside0.mk A110
    clear A110
    have HC12 := Aside0.mk H
    clear H
    go_enter Try.func7, Try.ntmps7
    go_upto_region 8 with (first | ((with_reducible refine gate_dst (N := 2) rfl ?_); refine box_event ?hg (N := 2) ?hd (cs := #[.int .i64 a0_0, .slice A0_1 l0_1.length c0_1]) (t := 24) ?hr ?_; (case hd => rfl); (case hg => rfl); (case hr => first | (go_simp; done) | (go_simp; rfl)); intro gb428 hg w13 hbox hb; have n0_ := Aside0.mk (below_step (qB) hb); have n1_ := Aside0.mk (hbox); have n2_ := Aside0.mk ((by rw [hg]; exact (below_size (qB)) : w.heap.size ≤ gb428)); have n3_ := Aside0.mk ((by rw [hg]; exact (below_size (qB)) : w.heap.size ≤ gb428)); clear HB; have HB := n0_; have BK428 := n1_; have GW428 := n2_; have GE428 := n3_; clear n0_ n1_ n2_ n3_; clear hb hbox hg; have hcz14_0 : w13.cell? ⟨gb428, 0, none⟩ = some (.int .i64 a0_0) := (blk_cell BK428.out 0).trans rfl; have hcz14_1 : w13.cell? ⟨gb428, 1, none⟩ = some (.slice A0_1 l0_1.length c0_1) := (blk_cell BK428.out 1).trans rfl; have hfz14_0 := blk_frozen BK428.out 0; have hfz14_1 := blk_frozen BK428.out 1) | ((with_reducible refine gate_callee (f := 9) rfl ?_); refine goesL_ (some 24) rfl rfl Try.func9 (by kernel_rfl) rfl #[.agg #[.int .i64 a0_0, .slice A0_1 l0_1.length c0_1], .int .i64 1048576] rfl qG ?_; (with_reducible refine (laws_szCnf.calls k a0_0 _ _ l0_1 1048576 t429 _ ?side1 ?side2 A3.out).mono ?_); (case side1 => exact qC (Kd.C_below HR0_1.out HB.out)); (case side2 => exact HC0_1.out); rintro e w15 ⟨rfl, hb⟩; refine ⟨_, rfl, ?_⟩; have n0_ := Aside0.mk (blk_below (g := gb428) (o := .cells #[.int .i64 a0_0, .slice A0_1 l0_1.length c0_1] 24 (0, 0)) (qK BK428.out) hb); have n1_ := Aside0.mk (below_step (qB) hb); clear BK428; clear HB; have BK428 := n0_; have HB := n1_; clear n0_ n1_; (try clear hb); (try clear hb2); (try clear hk); (try clear hi); have hcz16_0 : w15.cell? ⟨gb428, 0, none⟩ = some (.int .i64 a0_0) := (blk_cell BK428.out 0).trans rfl; have hcz16_1 : w15.cell? ⟨gb428, 1, none⟩ = some (.slice A0_1 l0_1.length c0_1) := (blk_cell BK428.out 1).trans rfl; have hfz16_0 := blk_frozen BK428.out 0; have hfz16_1 := blk_frozen BK428.out 1) | ((with_reducible refine gate_callee (f := 11) rfl ?_); refine goesL_ (some 29) rfl rfl Try.func11 (by kernel_rfl) rfl #[.agg #[.int .i64 a0_0, .slice A0_1 l0_1.length c0_1]] rfl qG ?_; (with_reducible refine (laws_toCnf.calls k a0_0 _ _ l0_1 t430 t431 _ ?side1 ?side2 A8.out).mono ?_); (case side1 => exact qC (Kd.C_below HR0_1.out HB.out)); (case side2 => exact HC0_1.out); rintro e w17 ⟨v432, rfl, ho0, hb⟩; refine ⟨_, rfl, ?_⟩; have n0_ := Aside0.mk (Kd.S_lower ho0 (below_size (qB))); have n1_ := Aside0.mk (blk_below (g := gb428) (o := .cells #[.int .i64 a0_0, .slice A0_1 l0_1.length c0_1] 24 (0, 0)) (qK BK428.out) hb); have n2_ := Aside0.mk (below_step (qB) hb); clear BK428; clear HB; have HO433 := n0_; have BK428 := n1_; have HB := n2_; clear n0_ n1_ n2_; (try clear hb); (try clear hb2); (try clear hk); (try clear hi); (try clear ho0); obtain ⟨Ao18, co18, eo18⟩ := Kd.S_slice HO433.out; subst eo18) | ((with_reducible refine gate_callee (f := 27) rfl ?_); refine goesL_ (some 31) rfl rfl Try.func27 (by kernel_rfl) rfl #[.agg #[.int .i64 t430, .slice Ao18 t431.length co18], .int .i64 a1] rfl qG ?_; (with_reducible refine (spec_Solve.calls k t430 _ _ t431 a1 t434 t435 t438 t439 _ ?side1 ?side2 A9.out).mono ?_); (case side1 => repeat (first | exact (Kd.S_reads' HO433.out).2.2 | (with_reducible refine Kd.C_alloc ?_ _) | (with_reducible refine Kd.C_drewN ?_ _) | (with_reducible refine Kd.C_drew ?_))); (case side2 => exact (Kd.S_reads' HO433.out).2.1); rintro e w19 ⟨v436, rfl, ho0, hb⟩; refine ⟨_, rfl, ?_⟩; have n0_ := Aside0.mk (Kd.S_below (by (with_reducible repeat (first | apply Kd.S_alloc | apply Kd.S_drewN | apply Kd.S_drew)); exact HO433.out) hb); have n1_ := Aside0.mk (Kd.R_lower ho0 (below_size (qB))); have n2_ := Aside0.mk (blk_below (g := gb428) (o := .cells #[.int .i64 a0_0, .slice A0_1 l0_1.length c0_1] 24 (0, 0)) (qK BK428.out) hb); have n3_ := Aside0.mk (below_step (qB) hb); clear HO433; clear BK428; clear HB; have HO433 := n0_; have HO437 := n1_; have BK428 := n2_; have HB := n3_; clear n0_ n1_ n2_ n3_; (try clear hb); (try clear hb2); (try clear hk); (try clear hi); (try clear ho0); have hcz20_0 : w19.cell? ⟨gb428, 0, none⟩ = some (.int .i64 a0_0) := (blk_cell BK428.out 0).trans rfl; have hcz20_1 : w19.cell? ⟨gb428, 1, none⟩ = some (.slice A0_1 l0_1.length c0_1) := (blk_cell BK428.out 1).trans rfl; have hfz20_0 := blk_frozen BK428.out 0; have hfz20_1 := blk_frozen BK428.out 1) | ((with_reducible refine gate_callee (f := 11) rfl ?_); refine goesL_ (some 37) rfl rfl Try.func11 (by kernel_rfl) rfl #[.agg #[.int .i64 a0_0, .slice A0_1 l0_1.length c0_1]] rfl qG ?_; (with_reducible refine (laws_toCnf.calls k a0_0 _ _ l0_1 t440 t441 _ ?side1 ?side2 A10.out).mono ?_); (case side1 => exact qC (Kd.C_below HR0_1.out HB.out)); (case side2 => exact HC0_1.out); rintro e w21 ⟨v442, rfl, ho0, hb⟩; refine ⟨_, rfl, ?_⟩; have n0_ := Aside0.mk (Kd.S_elder' (by (with_reducible repeat (first | apply Kd.S_alloc | apply Kd.S_drewN | apply Kd.S_drew)); exact HO433.out) (Kd.S_base ho0) hb); have n1_ := Aside0.mk (Kd.R_below (qR HO437.out) hb); have n2_ := Aside0.mk (Kd.S_lower (Kd.S_new' ho0 (Kd.S_lt (by (with_reducible repeat (first | apply Kd.S_alloc | apply Kd.S_drewN | apply Kd.S_drew)); exact HO433.out))) (below_size (qB))); have n3_ := Aside0.mk (blk_below (g := gb428) (o := .cells #[.int .i64 a0_0, .slice A0_1 l0_1.length c0_1] 24 (0, 0)) (qK BK428.out) hb); have n4_ := Aside0.mk (below_step (qB) hb); clear HO433; clear HO437; clear BK428; clear HB; have HO433 := n0_; have HO437 := n1_; have HO443 := n2_; have BK428 := n3_; have HB := n4_; clear n0_ n1_ n2_ n3_ n4_; (try clear hb); (try clear hb2); (try clear hk); (try clear hi); (try clear ho0)) | ((with_reducible refine gate_dst (N := 10) rfl ?_); refine box_event ?hg (N := 10) ?hd (cs := #[.int .i64 0, .slice none 0 0]) (t := 27) ?hr ?_; (case hd => rfl); (case hg => rfl); (case hr => first | (go_simp; done) | (go_simp; rfl)); intro gb444 hg w22 hbox hb; have n0_ := Aside0.mk (Kd.S_below (by (with_reducible repeat (first | apply Kd.S_alloc | apply Kd.S_drewN | apply Kd.S_drew)); exact HO433.out) hb); have n1_ := Aside0.mk (Kd.R_below (qR HO437.out) hb); have n2_ := Aside0.mk (Kd.S_below (by (with_reducible repeat (first | apply Kd.S_alloc | apply Kd.S_drewN | apply Kd.S_drew)); exact HO443.out) hb); have n3_ := Aside0.mk (blk_below (g := gb428) (o := .cells #[.int .i64 a0_0, .slice A0_1 l0_1.length c0_1] 24 (0, 0)) (qK BK428.out) hb); have n4_ := Aside0.mk (below_step (qB) hb); have n5_ := Aside0.mk (hbox); have n6_ := Aside0.mk ((by rw [hg]; exact (below_size (qB)) : w.heap.size ≤ gb444)); have n7_ := Aside0.mk ((by rw [hg]; exact (below_size (qB)) : w.heap.size ≤ gb444)); have n8_ := Aside0.mk ((by rw [hg]; exact Nat.ne_of_lt (blk_lt (g := gb428) (o := .cells #[.int .i64 a0_0, .slice A0_1 l0_1.length c0_1] 24 (0, 0)) (qK BK428.out)) : gb428 ≠ gb444)); have n9_ := Aside0.mk ((by rw [hg]; exact Nat.ne_of_gt (blk_lt (g := gb428) (o := .cells #[.int .i64 a0_0, .slice A0_1 l0_1.length c0_1] 24 (0, 0)) (qK BK428.out)) : gb444 ≠ gb428)); clear HO433; clear HO437; clear HO443; clear BK428; clear HB; have HO433 := n0_; have HO437 := n1_; have HO443 := n2_; have BK428 := n3_; have HB := n4_; have BK444 := n5_; have GW444 := n6_; have GE444 := n7_; have NB428_444 := n8_; have NB444_428 := n9_; clear n0_ n1_ n2_ n3_ n4_ n5_ n6_ n7_ n8_ n9_; clear hb hbox hg; have hnb23 := NB444_428.out; have hnc23 := NB428_444.out; have hcz24_0 : w22.cell? ⟨gb444, 0, none⟩ = some (.int .i64 0) := (blk_cell BK444.out 0).trans rfl; have hcz24_1 : w22.cell? ⟨gb444, 1, none⟩ = some (.slice none 0 0) := (blk_cell BK444.out 1).trans rfl; have hfz24_0 := blk_frozen BK444.out 0; have hfz24_1 := blk_frozen BK444.out 1; obtain ⟨Ao25, co25, eo25⟩ := Kd.S_slice HO443.out; subst eo25) | ((with_reducible refine gate_callee (f := 28) rfl ?_); refine goesL_ (some 41) rfl rfl Try.func28 (by kernel_rfl) rfl #[.agg #[.int .i64 t440, .slice Ao25 t441.length co25], .int .i64 a1] rfl qG ?_; (with_reducible refine (impl_Solve.calls k t440 _ _ t441 a1 t445 t446 t449 t450 _ ?side1 ?side2 A11.out).mono ?_); (case side1 => refine (Kd.S_reads' (e := 39) (base := w.heap.size) (ok := fun k_ => (True ∧ some k_ ≠ (.slice Ao18 t431.length co18 : Value).ownBlock)) (n := t441.length) (c := co25) ?_).2.2; exact (by (with_reducible repeat (first | apply Kd.S_alloc | apply Kd.S_drewN | apply Kd.S_drew)); exact (Kd.S_mono (Kd.S_far (p := ⟨gb444, 1, none⟩) (Kd.S_far (p := ⟨gb444, 0, none⟩) (Kd.S_types HO443.out BK444.out (by decide)) (fun _ hk => hk.2) (.int .i64 t440)) (fun _ hk => hk.2) (.slice Ao25 t441.length co25)) (fun _ h_ => h_.1)))); (case side2 => exact (Kd.S_reads' HO443.out).2.1); rintro e w26 ⟨v447, rfl, ho0, hb⟩; refine ⟨_, rfl, ?_⟩; have n0_ := Aside0.mk (Kd.S_below (by (with_reducible repeat (first | apply Kd.S_alloc | apply Kd.S_drewN | apply Kd.S_drew)); exact (Kd.S_mono (Kd.S_far (p := ⟨gb444, 1, none⟩) (Kd.S_far (p := ⟨gb444, 0, none⟩) (Kd.S_types HO433.out BK444.out (by decide)) (fun _ hk => hk.2) (.int .i64 t440)) (fun _ hk => hk.2) (.slice Ao25 t441.length co25)) (fun _ h_ => h_.1))) hb); have n1_ := Aside0.mk (Kd.R_elder' (by (with_reducible repeat (first | apply Kd.R_alloc | apply Kd.R_drewN | apply Kd.R_drew)); exact (Kd.R_mono (Kd.R_far (p := ⟨gb444, 1, none⟩) (Kd.R_far (p := ⟨gb444, 0, none⟩) (Kd.R_types HO437.out BK444.out (by decide)) (fun _ hk => hk.2) (.int .i64 t440)) (fun _ hk => hk.2) (.slice Ao25 t441.length co25)) (fun _ h_ => h_.1))) (Kd.R_base ho0) hb); have n2_ := Aside0.mk (Kd.S_below (by (with_reducible repeat (first | apply Kd.S_alloc | apply Kd.S_drewN | apply Kd.S_drew)); exact (Kd.S_mono (Kd.S_far (p := ⟨gb444, 1, none⟩) (Kd.S_far (p := ⟨gb444, 0, none⟩) (Kd.S_types HO443.out BK444.out (by decide)) (fun _ hk => hk.2) (.int .i64 t440)) (fun _ hk => hk.2) (.slice Ao25 t441.length co25)) (fun _ h_ => h_.1))) hb); have n3_ := Aside0.mk (Kd.R_lower (Kd.R_new' ho0 (Kd.R_lt (by (with_reducible repeat (first | apply Kd.R_alloc | apply Kd.R_drewN | apply Kd.R_drew)); exact (Kd.R_mono (Kd.R_far (p := ⟨gb444, 1, none⟩) (Kd.R_far (p := ⟨gb444, 0, none⟩) (Kd.R_types HO437.out BK444.out (by decide)) (fun _ hk => hk.2) (.int .i64 t440)) (fun _ hk => hk.2) (.slice Ao25 t441.length co25)) (fun _ h_ => h_.1))))) (below_size (qB))); have n4_ := Aside0.mk (blk_below (g := gb428) (o := .cells #[.int .i64 a0_0, .slice A0_1 l0_1.length c0_1] 24 (0, 0)) (qF BK428.out) hb); have n5_ := Aside0.mk (blk_below (g := gb444) (o := .cells #[.int .i64 t440, .slice Ao25 t441.length co25] 27 (0, 0)) (by (with_reducible repeat (first | refine blk_drewN ?_ _ | refine blk_drew ?_ | refine blk_alloc ?_ _)); refine blk_put (cs := #[.int .i64 t440, .slice none 0 0]) ?_ 1 _ rfl; (with_reducible repeat (first | refine blk_drewN ?_ _ | refine blk_drew ?_ | refine blk_alloc ?_ _)); refine blk_put (cs := #[.int .i64 0, .slice none 0 0]) ?_ 0 _ rfl; (with_reducible repeat (first | refine blk_drewN ?_ _ | refine blk_drew ?_ | refine blk_alloc ?_ _)); exact BK444.out) hb); have n6_ := Aside0.mk (below_step (qB) hb); clear HO433; clear HO437; clear HO443; clear BK428; clear BK444; clear HB; have HO433 := n0_; have HO437 := n1_; have HO443 := n2_; have HO448 := n3_; have BK428 := n4_; have BK444 := n5_; have HB := n6_; clear n0_ n1_ n2_ n3_ n4_ n5_ n6_; (try clear hb); (try clear hb2); (try clear hk); (try clear hi); (try clear ho0)))
    (try simp only [Act.put, List.setIfInBounds_toArray, List.set_cons_zero, List.set_cons_succ])
    go_cut [64] (fun v64 wc => ∃ (kq : Nat) (x64_11 : Bool), v64 = .bool x64_11 ∧ Aside0 (laws_FnExactSolve.j0 kq a1 t434 t435 t438 t439 t445 t446 t449 t450 x64_11 a0_0 l0_1 t440 t441 = some r) ∧ Aside0 (kq ≤ k) ∧ Aside0 (Kd.R Kd.bool 4 wc w.heap.size (fun k_ => some k_ ≠ (v447 : Value).ownBlock) v436 t435) ∧ Aside0 (Kd.R Kd.bool 4 wc w.heap.size (fun k_ => some k_ ≠ (v436 : Value).ownBlock) v447 t446) ∧ Aside0 (Kd.S (Kd.slice 3 (Kd.int .i64)) 39 wc w.heap.size (fun _ => True) (.slice Ao25 t441.length co25) t441) ∧ Aside0 (wc.heap[gb428]? = some (.cells #[.int .i64 a0_0, (.slice A0_1 l0_1.length c0_1)] 24 (0, 0))) ∧ Aside0 (wc.heap[gb444]? = some (.cells #[.int .i64 t440, (.slice Ao25 t441.length co25)] 27 (0, 0))) ∧ Aside0 (Below w.heap.size w wc))
    case first =>
      have H := HC12.out
      clear HC12
      by_cases c27 : t445 = t434
      · rw [if_pos c27] at H
        have c27b0 : (t445 == t434) = true := beq_iff_eq.mpr c27
        have c27b1 : (t445 != t434) = false := bne_eq_false_iff_eq.mpr c27
        clear c27
        (first | rw [c27b0] | (simp only [i64_w, i32_w]; rw [c27b0]) | skip)
        replace H := Option.bind_eq_some_iff.mp H
        obtain ⟨t451, A280, H⟩ := H
        replace H : (if t451 = true then (if t449 = t438 then (laws_FnExactSolve.j0 k a1 t434 t435 t438 t439 t445 t446 t449 t450 (t450 != t439) a0_0 l0_1 t440 t441) else (laws_FnExactSolve.j0 k a1 t434 t435 t438 t439 t445 t446 t449 t450 true a0_0 l0_1 t440 t441)) else (laws_FnExactSolve.j0 k a1 t434 t435 t438 t439 t445 t446 t449 t450 true a0_0 l0_1 t440 t441)) = some r := H
        have A28 := Aside0.mk A280
        clear A280
        by_cases c29 : t451 = true
        · subst c29
          have H1 : (if t449 = t438 then (laws_FnExactSolve.j0 k a1 t434 t435 t438 t439 t445 t446 t449 t450 (t450 != t439) a0_0 l0_1 t440 t441) else (laws_FnExactSolve.j0 k a1 t434 t435 t438 t439 t445 t446 t449 t450 true a0_0 l0_1 t440 t441)) = some r := by rw [if_pos rfl] at H; exact H
          clear H
          have H := H1
          clear H1
          by_cases c30 : t449 = t438
          · rw [if_pos c30] at H
            have c30b0 : (t449 == t438) = true := beq_iff_eq.mpr c30
            have c30b1 : (t449 != t438) = false := bne_eq_false_iff_eq.mpr c30
            clear c30
            have H' := Aside0.mk H
            clear H
            obtain ⟨Ao31, co31, eo31⟩ := Kd.R_slice HO448.out
            subst eo31
            obtain ⟨Ao32, co32, eo32⟩ := Kd.R_slice HO437.out
            subst eo32
            go_wp2_with (first | (go_at_call 17; (with_reducible refine (laws_eqBoolS.calls k _ _ t446 _ _ t435 true _ ?side1 ?side2 ?side3 ?side4 A28.out).mono ?_); (case side1 => repeat (first | exact (Kd.R_reads' HO448.out).2.2 | (with_reducible refine Kd.C_alloc ?_ _) | (with_reducible refine Kd.C_drewN ?_ _) | (with_reducible refine Kd.C_drew ?_))); (case side2 => exact (Kd.R_reads' HO448.out).2.1); (case side3 => repeat (first | exact (Kd.R_reads' HO437.out).2.2 | (with_reducible refine Kd.C_alloc ?_ _) | (with_reducible refine Kd.C_drewN ?_ _) | (with_reducible refine Kd.C_drew ?_))); (case side4 => exact (Kd.R_reads' HO437.out).2.1); rintro e w' ⟨rfl, ⟨nd, rfl⟩⟩))
            go_meet
            case rel => exact ⟨_, ((t450 != t439)), qS, H', ⟨by first | omega | exact Nat.le_refl _⟩, ⟨by (with_reducible repeat (first | apply Kd.R_alloc | apply Kd.R_drewN | apply Kd.R_drew)); exact Kd.R_mono HO437.out (fun _ hk => hk.2)⟩, ⟨by (with_reducible repeat (first | apply Kd.R_alloc | apply Kd.R_drewN | apply Kd.R_drew)); exact Kd.R_mono HO448.out (fun _ hk => hk.2)⟩, ⟨by (with_reducible repeat (first | apply Kd.S_alloc | apply Kd.S_drewN | apply Kd.S_drew)); exact Kd.S_mono HO443.out (fun _ hk => trivial)⟩, ⟨by (with_reducible repeat (first | refine blk_drewN ?_ _ | refine blk_drew ?_ | refine blk_alloc ?_ _)); exact BK428.out⟩, ⟨by (with_reducible repeat (first | refine blk_drewN ?_ _ | refine blk_drew ?_ | refine blk_alloc ?_ _)); exact BK444.out⟩, ⟨qB⟩⟩
          · rw [if_neg c30] at H
            have c30b0 : (t449 == t438) = false := beq_eq_false_iff_ne.mpr c30
            have c30b1 : (t449 != t438) = true := bne_iff_ne.mpr c30
            have H' := Aside0.mk H
            clear H
            obtain ⟨Ao33, co33, eo33⟩ := Kd.R_slice HO448.out
            subst eo33
            obtain ⟨Ao34, co34, eo34⟩ := Kd.R_slice HO437.out
            subst eo34
            go_wp2_with (first | (go_at_call 17; (with_reducible refine (laws_eqBoolS.calls k _ _ t446 _ _ t435 true _ ?side1 ?side2 ?side3 ?side4 A28.out).mono ?_); (case side1 => repeat (first | exact (Kd.R_reads' HO448.out).2.2 | (with_reducible refine Kd.C_alloc ?_ _) | (with_reducible refine Kd.C_drewN ?_ _) | (with_reducible refine Kd.C_drew ?_))); (case side2 => exact (Kd.R_reads' HO448.out).2.1); (case side3 => repeat (first | exact (Kd.R_reads' HO437.out).2.2 | (with_reducible refine Kd.C_alloc ?_ _) | (with_reducible refine Kd.C_drewN ?_ _) | (with_reducible refine Kd.C_drew ?_))); (case side4 => exact (Kd.R_reads' HO437.out).2.1); rintro e w' ⟨rfl, ⟨nd, rfl⟩⟩))
            go_meet
            case rel => exact ⟨_, (true), qS, H', ⟨by first | omega | exact Nat.le_refl _⟩, ⟨by (with_reducible repeat (first | apply Kd.R_alloc | apply Kd.R_drewN | apply Kd.R_drew)); exact Kd.R_mono HO437.out (fun _ hk => hk.2)⟩, ⟨by (with_reducible repeat (first | apply Kd.R_alloc | apply Kd.R_drewN | apply Kd.R_drew)); exact Kd.R_mono HO448.out (fun _ hk => hk.2)⟩, ⟨by (with_reducible repeat (first | apply Kd.S_alloc | apply Kd.S_drewN | apply Kd.S_drew)); exact Kd.S_mono HO443.out (fun _ hk => trivial)⟩, ⟨by (with_reducible repeat (first | refine blk_drewN ?_ _ | refine blk_drew ?_ | refine blk_alloc ?_ _)); exact BK428.out⟩, ⟨by (with_reducible repeat (first | refine blk_drewN ?_ _ | refine blk_drew ?_ | refine blk_alloc ?_ _)); exact BK444.out⟩, ⟨qB⟩⟩
        · replace c29 := Bool.eq_false_iff.mpr c29
          subst c29
          have H1 : (laws_FnExactSolve.j0 k a1 t434 t435 t438 t439 t445 t446 t449 t450 true a0_0 l0_1 t440 t441) = some r := by rw [if_neg (show ¬ (false = true) by decide)] at H; exact H
          clear H
          have H := H1
          clear H1
          have H' := Aside0.mk H
          clear H
          obtain ⟨Ao35, co35, eo35⟩ := Kd.R_slice HO448.out
          subst eo35
          obtain ⟨Ao36, co36, eo36⟩ := Kd.R_slice HO437.out
          subst eo36
          go_wp2_with (first | (go_at_call 17; (with_reducible refine (laws_eqBoolS.calls k _ _ t446 _ _ t435 false _ ?side1 ?side2 ?side3 ?side4 A28.out).mono ?_); (case side1 => repeat (first | exact (Kd.R_reads' HO448.out).2.2 | (with_reducible refine Kd.C_alloc ?_ _) | (with_reducible refine Kd.C_drewN ?_ _) | (with_reducible refine Kd.C_drew ?_))); (case side2 => exact (Kd.R_reads' HO448.out).2.1); (case side3 => repeat (first | exact (Kd.R_reads' HO437.out).2.2 | (with_reducible refine Kd.C_alloc ?_ _) | (with_reducible refine Kd.C_drewN ?_ _) | (with_reducible refine Kd.C_drew ?_))); (case side4 => exact (Kd.R_reads' HO437.out).2.1); rintro e w' ⟨rfl, ⟨nd, rfl⟩⟩))
          go_meet
          case rel => exact ⟨_, (true), qS, H', ⟨by first | omega | exact Nat.le_refl _⟩, ⟨by (with_reducible repeat (first | apply Kd.R_alloc | apply Kd.R_drewN | apply Kd.R_drew)); exact Kd.R_mono HO437.out (fun _ hk => hk.2)⟩, ⟨by (with_reducible repeat (first | apply Kd.R_alloc | apply Kd.R_drewN | apply Kd.R_drew)); exact Kd.R_mono HO448.out (fun _ hk => hk.2)⟩, ⟨by (with_reducible repeat (first | apply Kd.S_alloc | apply Kd.S_drewN | apply Kd.S_drew)); exact Kd.S_mono HO443.out (fun _ hk => trivial)⟩, ⟨by (with_reducible repeat (first | refine blk_drewN ?_ _ | refine blk_drew ?_ | refine blk_alloc ?_ _)); exact BK428.out⟩, ⟨by (with_reducible repeat (first | refine blk_drewN ?_ _ | refine blk_drew ?_ | refine blk_alloc ?_ _)); exact BK444.out⟩, ⟨qB⟩⟩
      · rw [if_neg c27] at H
        have c27b0 : (t445 == t434) = false := beq_eq_false_iff_ne.mpr c27
        have c27b1 : (t445 != t434) = true := bne_iff_ne.mpr c27
        (first | rw [c27b0] | (simp only [i64_w, i32_w]; rw [c27b0]) | skip)
        have H' := Aside0.mk H
        clear H
        go_wp2
        go_meet
        case rel => exact ⟨_, (true), qS, H', ⟨by first | omega | exact Nat.le_refl _⟩, ⟨by (with_reducible repeat (first | apply Kd.R_alloc | apply Kd.R_drewN | apply Kd.R_drew)); exact Kd.R_mono HO437.out (fun _ hk => hk.2)⟩, ⟨by (with_reducible repeat (first | apply Kd.R_alloc | apply Kd.R_drewN | apply Kd.R_drew)); exact Kd.R_mono HO448.out (fun _ hk => hk.2)⟩, ⟨by (with_reducible repeat (first | apply Kd.S_alloc | apply Kd.S_drewN | apply Kd.S_drew)); exact Kd.S_mono HO443.out (fun _ hk => trivial)⟩, ⟨by (with_reducible repeat (first | refine blk_drewN ?_ _ | refine blk_drew ?_ | refine blk_alloc ?_ _)); exact BK428.out⟩, ⟨by (with_reducible repeat (first | refine blk_drewN ?_ _ | refine blk_drew ?_ | refine blk_alloc ?_ _)); exact BK444.out⟩, ⟨qB⟩⟩
    case rest =>
      clear HC12
      try clear c1
      try clear c2
      try clear p2
      try clear c3
      try clear c4
      try clear c4b0
      try clear c7
      try clear c9
      try clear c11
      try clear c23
      try clear c27
      try clear c27b0
      try clear c27b1
      try clear c28
      try clear c29
      try clear c30
      try clear c30b0
      try clear c30b1
      try clear hcz14_0
      try clear hcz14_1
      try clear hcz16_0
      try clear hcz16_1
      try clear hcz20_0
      try clear hcz20_1
      try clear hcz24_0
      try clear hcz24_1
      try clear hcz6_0
      try clear hcz6_1
      try clear hfz14_0
      try clear hfz14_1
      try clear hfz16_0
      try clear hfz16_1
      try clear hfz20_0
      try clear hfz20_1
      try clear hfz24_0
      try clear hfz24_1
      try clear hfz6_0
      try clear hfz6_1
      obtain ⟨kq, x64_11, rfl, HA, HJ11, HO_7, HO_12, HO_445001, BK428, BK444, HB⟩ := hcut
      cases kq with
      | zero => exact absurd HA.out (by simp [laws_FnExactSolve.j0])
      | succ kj11 =>
        have H := HA.out
        clear HA
        simp only [laws_FnExactSolve.j0] at H
        by_cases c37 : x64_11 = true
        · subst c37
          have H1 : (some false) = some r := by rw [if_pos rfl] at H; exact H
          clear H
          have H := H1
          clear H1
          obtain rfl := Option.some.inj H
          go_wp2
          go_ret
          exact ⟨qE, qB⟩
        · replace c37 := Bool.eq_false_iff.mpr c37
          subst c37
          have H1 : ((laws_toCnf.f kj11 a0_0 l0_1).bind fun bt452 => ((laws_eqCnf.f kj11 t440 t441 bt452.1 bt452.2).bind fun t456 => (if t456 = true then ((laws_markCnf.f t440 t441 1).bind fun t457 => (if t457 < 0 then (laws_FnExactSolve.j1 kj11 a1 t434 t435 t438 t439 t446 true a0_0 l0_1) else (if t445 = t434 then ((laws_eqBoolS.f kj11 t446 t435).bind fun t458 => (if t458 = true then (if t449 = t438 then (laws_FnExactSolve.j1 kj11 a1 t434 t435 t438 t439 t446 (t450 != t439) a0_0 l0_1) else (laws_FnExactSolve.j1 kj11 a1 t434 t435 t438 t439 t446 true a0_0 l0_1)) else (laws_FnExactSolve.j1 kj11 a1 t434 t435 t438 t439 t446 true a0_0 l0_1))) else (laws_FnExactSolve.j1 kj11 a1 t434 t435 t438 t439 t446 true a0_0 l0_1)))) else (some false)))) = some r := by rw [if_neg (show ¬ (false = true) by decide)] at H; exact H
          clear H
          have H := H1
          clear H1
          replace H := Option.bind_eq_some_iff.mp H
          obtain ⟨⟨t452, t453⟩, A380, H⟩ := H
          replace H : ((laws_eqCnf.f kj11 t440 t441 t452 t453).bind fun t456 => (if t456 = true then ((laws_markCnf.f t440 t441 1).bind fun t457 => (if t457 < 0 then (laws_FnExactSolve.j1 kj11 a1 t434 t435 t438 t439 t446 true a0_0 l0_1) else (if t445 = t434 then ((laws_eqBoolS.f kj11 t446 t435).bind fun t458 => (if t458 = true then (if t449 = t438 then (laws_FnExactSolve.j1 kj11 a1 t434 t435 t438 t439 t446 (t450 != t439) a0_0 l0_1) else (laws_FnExactSolve.j1 kj11 a1 t434 t435 t438 t439 t446 true a0_0 l0_1)) else (laws_FnExactSolve.j1 kj11 a1 t434 t435 t438 t439 t446 true a0_0 l0_1))) else (laws_FnExactSolve.j1 kj11 a1 t434 t435 t438 t439 t446 true a0_0 l0_1)))) else (some false))) = some r := H
          have A38 := Aside0.mk A380
          clear A380
          replace H := Option.bind_eq_some_iff.mp H
          obtain ⟨t456, A390, H⟩ := H
          replace H : (if t456 = true then ((laws_markCnf.f t440 t441 1).bind fun t457 => (if t457 < 0 then (laws_FnExactSolve.j1 kj11 a1 t434 t435 t438 t439 t446 true a0_0 l0_1) else (if t445 = t434 then ((laws_eqBoolS.f kj11 t446 t435).bind fun t458 => (if t458 = true then (if t449 = t438 then (laws_FnExactSolve.j1 kj11 a1 t434 t435 t438 t439 t446 (t450 != t439) a0_0 l0_1) else (laws_FnExactSolve.j1 kj11 a1 t434 t435 t438 t439 t446 true a0_0 l0_1)) else (laws_FnExactSolve.j1 kj11 a1 t434 t435 t438 t439 t446 true a0_0 l0_1))) else (laws_FnExactSolve.j1 kj11 a1 t434 t435 t438 t439 t446 true a0_0 l0_1)))) else (some false)) = some r := H
          have A39 := Aside0.mk A390
          clear A390
          by_cases c40 : t456 = true
          · subst c40
            have H1 : ((laws_markCnf.f t440 t441 1).bind fun t457 => (if t457 < 0 then (laws_FnExactSolve.j1 kj11 a1 t434 t435 t438 t439 t446 true a0_0 l0_1) else (if t445 = t434 then ((laws_eqBoolS.f kj11 t446 t435).bind fun t458 => (if t458 = true then (if t449 = t438 then (laws_FnExactSolve.j1 kj11 a1 t434 t435 t438 t439 t446 (t450 != t439) a0_0 l0_1) else (laws_FnExactSolve.j1 kj11 a1 t434 t435 t438 t439 t446 true a0_0 l0_1)) else (laws_FnExactSolve.j1 kj11 a1 t434 t435 t438 t439 t446 true a0_0 l0_1))) else (laws_FnExactSolve.j1 kj11 a1 t434 t435 t438 t439 t446 true a0_0 l0_1)))) = some r := by rw [if_pos rfl] at H; exact H
            clear H
            have H := H1
            clear H1
            replace H := Option.bind_eq_some_iff.mp H
            obtain ⟨t457, A410, H⟩ := H
            replace H : (if t457 < 0 then (laws_FnExactSolve.j1 kj11 a1 t434 t435 t438 t439 t446 true a0_0 l0_1) else (if t445 = t434 then ((laws_eqBoolS.f kj11 t446 t435).bind fun t458 => (if t458 = true then (if t449 = t438 then (laws_FnExactSolve.j1 kj11 a1 t434 t435 t438 t439 t446 (t450 != t439) a0_0 l0_1) else (laws_FnExactSolve.j1 kj11 a1 t434 t435 t438 t439 t446 true a0_0 l0_1)) else (laws_FnExactSolve.j1 kj11 a1 t434 t435 t438 t439 t446 true a0_0 l0_1))) else (laws_FnExactSolve.j1 kj11 a1 t434 t435 t438 t439 t446 true a0_0 l0_1))) = some r := H
            have A41 := Aside0.mk A410
            clear A410
            have HC42 := Aside0.mk H
            clear H
            try go_wp2
            have n0_ := Aside0.mk (Kd.R_drew HO_7.out)
            have n1_ := Aside0.mk (Kd.R_drew HO_12.out)
            have n2_ := Aside0.mk (Kd.S_drew HO_445001.out)
            have n3_ := Aside0.mk (blk_drew BK428.out)
            have n4_ := Aside0.mk (blk_drew BK444.out)
            have n5_ := Aside0.mk (below_drew1 HB.out)
            clear HO_7
            clear HO_12
            clear HO_445001
            clear BK428
            clear BK444
            clear HB
            have HO_7 := n0_
            have HO_12 := n1_
            have HO_445001 := n2_
            have BK428 := n3_
            have BK444 := n4_
            have HB := n5_
            clear n0_ n1_ n2_ n3_ n4_ n5_
            refine start_ (n := 5) (S := fun w' => w'.cell? ⟨gb444, 0, none⟩ = some (.int .i64 t440) ∧ w'.cell? ⟨gb444, 1, none⟩ = some (.slice Ao25 t441.length co25) ∧ w'.cell? ⟨gb428, 0, none⟩ = some (.int .i64 a0_0) ∧ w'.cell? ⟨gb428, 1, none⟩ = some (.slice A0_1 l0_1.length c0_1)) (ds := []) #[false, false, false, false, false] (by kernel_rfl) rfl rfl ⟨(blk_cell BK444.out 0).trans rfl, (blk_cell BK444.out 1).trans rfl, (blk_cell BK428.out 0).trans rfl, (blk_cell BK428.out 1).trans rfl⟩ (fun hHeld => ?_)
            generalize wc.drew = w43 at HO_7 HO_12 HO_445001 BK428 BK444 HB hHeld ⊢
            refine take_ (i := 0) (N := some 65) (v := ?_) (a' := ?_) #[true, false, false, false, false] rfl rfl (by kernel_rfl) (fun _ _ _ h => h) (Or.inl ⟨by rfl, ?_⟩) hHeld ?_ ?_
            rotate_left
            · rintro w' ⟨s0, s1, s2, s3⟩
              go_simp
              with_reducible rfl
            rotate_left
            · simp only [Act.put, List.setIfInBounds_toArray, List.set_cons_zero, List.set_cons_succ, i64_w, i32_w]
              rfl
            refine take_ (i := 1) (N := some 66) (v := ?_) (a' := ?_) #[true, true, false, false, false] rfl rfl (by kernel_rfl) (fun _ _ _ h => h) (Or.inl ⟨by rfl, ?_⟩) hHeld ?_ ?_
            rotate_left
            · rintro w' ⟨s0, s1, s2, s3⟩
              go_simp
              with_reducible rfl
            rotate_left
            · simp only [Act.put, List.setIfInBounds_toArray, List.set_cons_zero, List.set_cons_succ, i64_w, i32_w]
              rfl
            refine one_ (i := 2) (N := some 67) #[true, true, true, false, false] rfl rfl (by kernel_rfl) (by decide) (fun K hK => ?_)
            refine goes_ Try.func11 (by kernel_rfl) rfl #[.agg #[.int .i64 a0_0, .slice A0_1 l0_1.length c0_1]] (by rfl) rfl rfl qG ?_
            with_reducible refine (laws_toCnf.calls kj11 a0_0 _ _ l0_1 t452 t453 _ ?side1 ?side2 A38.out).mono ?_
            (case side1 => exact qC (Kd.C_below HR0_1.out HB.out))
            (case side2 => exact HC0_1.out)
            rintro e w44 ⟨v454, rfl, ho0, hb⟩
            refine ⟨_, rfl, ?_⟩
            have n0_ := Aside0.mk (Kd.R_below (qR HO_7.out) hb)
            have n1_ := Aside0.mk (Kd.R_below (qR HO_12.out) hb)
            have n2_ := Aside0.mk (Kd.S_elder' (by (with_reducible repeat (first | apply Kd.S_alloc | apply Kd.S_drewN | apply Kd.S_drew)); exact HO_445001.out) (Kd.S_base ho0) hb)
            have n3_ := Aside0.mk (Kd.S_lower (Kd.S_new' ho0 (Kd.S_lt (by (with_reducible repeat (first | apply Kd.S_alloc | apply Kd.S_drewN | apply Kd.S_drew)); exact HO_445001.out))) (below_size (qB)))
            have n4_ := Aside0.mk (blk_below (g := gb428) (o := .cells #[.int .i64 a0_0, .slice A0_1 l0_1.length c0_1] 24 (0, 0)) (qK BK428.out) hb)
            have n5_ := Aside0.mk (blk_below (g := gb444) (o := .cells #[.int .i64 t440, .slice Ao25 t441.length co25] 27 (0, 0)) (qK BK444.out) hb)
            have n6_ := Aside0.mk (below_step (qB) hb)
            clear HO_7
            clear HO_12
            clear HO_445001
            clear BK428
            clear BK444
            clear HB
            have HO_7 := n0_
            have HO_12 := n1_
            have HO_445001 := n2_
            have HO455 := n3_
            have BK428 := n4_
            have BK444 := n5_
            have HB := n6_
            clear n0_ n1_ n2_ n3_ n4_ n5_ n6_
            (try clear hb)
            (try clear hb2)
            (try clear hk)
            (try clear hi)
            (try clear ho0)
            obtain ⟨Ao45, co45, eo45⟩ := Kd.S_slice HO455.out
            (first | subst eo45 | (injection eo45 with f1_ f2_ f3_; have f4_ := f1_.symm; have f5_ := f3_.symm; clear f1_ f2_ f3_; subst f4_; subst f5_))
            refine hK.out _ _ ⟨(blk_cell BK444.out 0).trans rfl, (blk_cell BK444.out 1).trans rfl, (blk_cell BK428.out 0).trans rfl, (blk_cell BK428.out 1).trans rfl⟩ (fun hHeld => ?_)
            clear hK K
            refine norm_ (a' := ?_) ?_ ?_
            rotate_left
            · show Act.put _ (some 67) _ = _
              simp only [Act.put, List.setIfInBounds_toArray, List.set_cons_zero, List.set_cons_succ, i64_w, i32_w]
              rfl
            refine one_ (i := 3) (N := some 68) #[true, true, true, true, false] rfl rfl (by kernel_rfl) (by decide) (fun K hK => ?_)
            refine goes_ Try.func13 (by kernel_rfl) rfl #[.agg #[.int .i64 t440, .slice Ao25 t441.length co25], .agg #[.int .i64 t452, .slice Ao45 t453.length co45]] (by rfl) rfl rfl qG ?_
            with_reducible refine (laws_eqCnf.calls kj11 t440 _ _ t441 t452 _ _ t453 true _ ?side1 ?side2 ?side3 ?side4 A39.out).mono ?_
            (case side1 => repeat (first | exact (Kd.S_reads' HO_445001.out).2.2 | (with_reducible refine Kd.C_alloc ?_ _) | (with_reducible refine Kd.C_drewN ?_ _) | (with_reducible refine Kd.C_drew ?_)))
            (case side2 => exact (Kd.S_reads' HO_445001.out).2.1)
            (case side3 => repeat (first | exact (Kd.S_reads' HO455.out).2.2 | (with_reducible refine Kd.C_alloc ?_ _) | (with_reducible refine Kd.C_drewN ?_ _) | (with_reducible refine Kd.C_drew ?_)))
            (case side4 => exact (Kd.S_reads' HO455.out).2.1)
            rintro e w46 ⟨rfl, hb⟩
            refine ⟨_, rfl, ?_⟩
            have n0_ := Aside0.mk (Kd.R_below (qR HO_7.out) hb)
            have n1_ := Aside0.mk (Kd.R_below (qR HO_12.out) hb)
            have n2_ := Aside0.mk (Kd.S_below (by (with_reducible repeat (first | apply Kd.S_alloc | apply Kd.S_drewN | apply Kd.S_drew)); exact HO_445001.out) hb)
            have n3_ := Aside0.mk (Kd.S_below (by (with_reducible repeat (first | apply Kd.S_alloc | apply Kd.S_drewN | apply Kd.S_drew)); exact HO455.out) hb)
            have n4_ := Aside0.mk (blk_below (g := gb428) (o := .cells #[.int .i64 a0_0, .slice A0_1 l0_1.length c0_1] 24 (0, 0)) (qK BK428.out) hb)
            have n5_ := Aside0.mk (blk_below (g := gb444) (o := .cells #[.int .i64 t440, .slice Ao25 t441.length co25] 27 (0, 0)) (qK BK444.out) hb)
            have n6_ := Aside0.mk (below_step (qB) hb)
            clear HO_7
            clear HO_12
            clear HO_445001
            clear HO455
            clear BK428
            clear BK444
            clear HB
            have HO_7 := n0_
            have HO_12 := n1_
            have HO_445001 := n2_
            have HO455 := n3_
            have BK428 := n4_
            have BK444 := n5_
            have HB := n6_
            clear n0_ n1_ n2_ n3_ n4_ n5_ n6_
            (try clear hb)
            (try clear hb2)
            (try clear hk)
            (try clear hi)
            refine hK.out _ _ ⟨(blk_cell BK444.out 0).trans rfl, (blk_cell BK444.out 1).trans rfl, (blk_cell BK428.out 0).trans rfl, (blk_cell BK428.out 1).trans rfl⟩ (fun hHeld => ?_)
            clear hK K
            refine norm_ (a' := ?_) ?_ ?_
            rotate_left
            · show Act.put _ (some 68) _ = _
              simp only [Act.put, List.setIfInBounds_toArray, List.set_cons_zero, List.set_cons_succ, i64_w, i32_w]
              rfl
            refine pure_ (i := 4) (N := some 69) (v := ?_) (a' := ?_) #[true, true, true, true, true] rfl rfl (by kernel_rfl) (fun _ _ _ h => h) (Or.inl ⟨by rfl, ?_⟩) ?_ ?_
            rotate_left
            · intro w'
              go_simp
              with_reducible rfl
            rotate_left
            · simp only [Act.put, List.setIfInBounds_toArray, List.set_cons_zero, List.set_cons_succ, i64_w, i32_w]
              rfl
            refine done_ (by kernel_rfl) ?_
            have hnb47 := NB444_428.out
            have hnc47 := NB428_444.out
            have hcz48_0 : w46.cell? ⟨gb444, 0, none⟩ = some (.int .i64 t440) := (blk_cell BK444.out 0).trans rfl
            have hcz48_1 : w46.cell? ⟨gb444, 1, none⟩ = some (.slice Ao25 t441.length co25) := (blk_cell BK444.out 1).trans rfl
            have hfz48_0 := blk_frozen BK444.out 0
            have hfz48_1 := blk_frozen BK444.out 1
            go_upto_region 14 with (first | ((with_reducible refine gate_callee (f := 24) rfl ?_); refine goesL_ (some 72) rfl rfl Try.func24 (by kernel_rfl) rfl #[.agg #[.int .i64 t440, .slice Ao25 t441.length co25], .int .i64 1] rfl qG ?_; (with_reducible first | refine (laws_markCnf.calls t440 _ (.slice Ao25 t441.length co25) t441 1 t457 w _ ?side1 (Kd.S_R (HO_445001.out)) A41.out).mono ?_ | refine (laws_markCnf.calls t440 _ (.slice Ao25 t441.length co25) t441 1 t457 w _ ?side1 (Kd.R_drewN (Kd.S_R (HO_445001.out)) _) A41.out).mono ?_); (case side1 => repeat (first | (with_reducible first | exact HB.out | apply below_alloc | apply pw_below_drewN | apply below_drew1 | refine below_set ?_ GE428.out | refine below_set ?_ GE444.out) | exact HB.out)); rintro e w49 ⟨rfl, hb, hkp⟩; refine ⟨_, rfl, ?_⟩; have n0_ := Aside0.mk (by first | exact Kd.R_mono (ok' := fun k_ => some k_ ≠ (v447 : Value).ownBlock) (R_keepI HO_7.out hkp (by decide)) (fun k_ hk_ => hk_) | exact Kd.R_mono (ok' := fun k_ => some k_ ≠ (v447 : Value).ownBlock) (R_keepP rfl HO_7.out hkp (fun k_ e_ hs_ => absurd hs_.1 (by simp only [e_, ne_eq, not_true_eq_false, false_and, and_false, not_false_eq_true]))) (fun k_ hk_ => hk_)); have n1_ := Aside0.mk (by first | exact Kd.R_mono (ok' := fun k_ => some k_ ≠ (v436 : Value).ownBlock) (R_keepI HO_12.out hkp (by decide)) (fun k_ hk_ => hk_) | exact Kd.R_mono (ok' := fun k_ => some k_ ≠ (v436 : Value).ownBlock) (R_keepP rfl HO_12.out hkp (fun k_ e_ hs_ => absurd hs_.1 (by simp only [e_, ne_eq, not_true_eq_false, false_and, and_false, not_false_eq_true]))) (fun k_ hk_ => hk_)); have n2_ := Aside0.mk (by first | exact blk_keepP BK428.out hkp (by decide) | exact blk_keepP (blk_drewN BK428.out _) hkp (by decide) | exact blk_keepP (qK BK428.out) hkp (by decide)); have n3_ := Aside0.mk (by first | exact blk_keepP BK444.out hkp (by decide) | exact blk_keepP (blk_drewN BK444.out _) hkp (by decide) | exact blk_keepP (qK BK444.out) hkp (by decide)); have n5_ := Aside0.mk (hb); clear HO_7; clear HO_12; clear BK428; clear BK444; clear HO455; clear HB; clear HO_445001; have HO_7 := n0_; have HO_12 := n1_; have BK428 := n2_; have BK444 := n3_; have HB := n5_; clear n0_ n1_ n2_ n3_ n5_; (try clear hb); (try clear hkp)))
            (try simp only [Act.put, List.setIfInBounds_toArray, List.set_cons_zero, List.set_cons_succ])
            go_cut [95] (fun v95 wc => ∃ (kq : Nat) (x95_41 : Bool), v95 = .bool x95_41 ∧ Aside0 (laws_FnExactSolve.j1 kq a1 t434 t435 t438 t439 t446 x95_41 a0_0 l0_1 = some r) ∧ Aside0 (kq ≤ kj11) ∧ Aside0 (Kd.R Kd.bool 4 wc w.heap.size (fun k_ => some k_ ≠ (v447 : Value).ownBlock) v436 t435) ∧ Aside0 (Kd.R Kd.bool 4 wc w.heap.size (fun k_ => some k_ ≠ (v436 : Value).ownBlock) v447 t446) ∧ Aside0 (wc.heap[gb428]? = some (.cells #[.int .i64 a0_0, (.slice A0_1 l0_1.length c0_1)] 24 (0, 0))) ∧ Aside0 (Below w.heap.size w wc))
            case first =>
              have H := HC42.out
              clear HC42
              by_cases c50 : t457 < 0
              · rw [if_pos c50] at H
                have c50b0 : decide (t457 < 0) = true := decide_eq_true c50
                clear c50
                (first | rw [c50b0] | (simp only [i64_w, i32_w]; rw [c50b0]) | skip)
                have H' := Aside0.mk H
                clear H
                go_wp2
                go_meet
                case rel => exact ⟨_, (true), qS, H', ⟨by have := HJ11.out; first | omega | exact Nat.le_refl _⟩, ⟨qR HO_7.out⟩, ⟨qR HO_12.out⟩, ⟨by (with_reducible repeat (first | refine blk_drewN ?_ _ | refine blk_drew ?_ | refine blk_alloc ?_ _)); exact BK428.out⟩, ⟨qB⟩⟩
              · rw [if_neg c50] at H
                have c50b0 : decide (t457 < 0) = false := decide_eq_false c50
                clear c50
                (first | rw [c50b0] | (simp only [i64_w, i32_w]; rw [c50b0]) | skip)
                by_cases c51 : t445 = t434
                · rw [if_pos c51] at H
                  have c51b0 : (t445 == t434) = true := beq_iff_eq.mpr c51
                  have c51b1 : (t445 != t434) = false := bne_eq_false_iff_eq.mpr c51
                  clear c51
                  replace H := Option.bind_eq_some_iff.mp H
                  obtain ⟨t458, A520, H⟩ := H
                  replace H : (if t458 = true then (if t449 = t438 then (laws_FnExactSolve.j1 kj11 a1 t434 t435 t438 t439 t446 (t450 != t439) a0_0 l0_1) else (laws_FnExactSolve.j1 kj11 a1 t434 t435 t438 t439 t446 true a0_0 l0_1)) else (laws_FnExactSolve.j1 kj11 a1 t434 t435 t438 t439 t446 true a0_0 l0_1)) = some r := H
                  have A52 := Aside0.mk A520
                  clear A520
                  by_cases c53 : t458 = true
                  · subst c53
                    have H1 : (if t449 = t438 then (laws_FnExactSolve.j1 kj11 a1 t434 t435 t438 t439 t446 (t450 != t439) a0_0 l0_1) else (laws_FnExactSolve.j1 kj11 a1 t434 t435 t438 t439 t446 true a0_0 l0_1)) = some r := by rw [if_pos rfl] at H; exact H
                    clear H
                    have H := H1
                    clear H1
                    by_cases c54 : t449 = t438
                    · rw [if_pos c54] at H
                      have c54b0 : (t449 == t438) = true := beq_iff_eq.mpr c54
                      have c54b1 : (t449 != t438) = false := bne_eq_false_iff_eq.mpr c54
                      clear c54
                      have H' := Aside0.mk H
                      clear H
                      obtain ⟨Ao55, co55, eo55⟩ := Kd.R_slice HO_12.out
                      subst eo55
                      obtain ⟨Ao56, co56, eo56⟩ := Kd.R_slice HO_7.out
                      subst eo56
                      go_wp2_with (first | (go_at_call 17; (with_reducible refine (laws_eqBoolS.calls kj11 _ _ t446 _ _ t435 true _ ?side1 ?side2 ?side3 ?side4 A52.out).mono ?_); (case side1 => repeat (first | exact (Kd.R_reads' HO_12.out).2.2 | (with_reducible refine Kd.C_alloc ?_ _) | (with_reducible refine Kd.C_drewN ?_ _) | (with_reducible refine Kd.C_drew ?_))); (case side2 => exact (Kd.R_reads' HO_12.out).2.1); (case side3 => repeat (first | exact (Kd.R_reads' HO_7.out).2.2 | (with_reducible refine Kd.C_alloc ?_ _) | (with_reducible refine Kd.C_drewN ?_ _) | (with_reducible refine Kd.C_drew ?_))); (case side4 => exact (Kd.R_reads' HO_7.out).2.1); rintro e w' ⟨rfl, ⟨nd, rfl⟩⟩))
                      go_meet
                      case rel => exact ⟨_, ((t450 != t439)), qS, H', ⟨by have := HJ11.out; first | omega | exact Nat.le_refl _⟩, ⟨qR HO_7.out⟩, ⟨qR HO_12.out⟩, ⟨by (with_reducible repeat (first | refine blk_drewN ?_ _ | refine blk_drew ?_ | refine blk_alloc ?_ _)); exact BK428.out⟩, ⟨qB⟩⟩
                    · rw [if_neg c54] at H
                      have c54b0 : (t449 == t438) = false := beq_eq_false_iff_ne.mpr c54
                      have c54b1 : (t449 != t438) = true := bne_iff_ne.mpr c54
                      have H' := Aside0.mk H
                      clear H
                      obtain ⟨Ao57, co57, eo57⟩ := Kd.R_slice HO_12.out
                      subst eo57
                      obtain ⟨Ao58, co58, eo58⟩ := Kd.R_slice HO_7.out
                      subst eo58
                      go_wp2_with (first | (go_at_call 17; (with_reducible refine (laws_eqBoolS.calls kj11 _ _ t446 _ _ t435 true _ ?side1 ?side2 ?side3 ?side4 A52.out).mono ?_); (case side1 => repeat (first | exact (Kd.R_reads' HO_12.out).2.2 | (with_reducible refine Kd.C_alloc ?_ _) | (with_reducible refine Kd.C_drewN ?_ _) | (with_reducible refine Kd.C_drew ?_))); (case side2 => exact (Kd.R_reads' HO_12.out).2.1); (case side3 => repeat (first | exact (Kd.R_reads' HO_7.out).2.2 | (with_reducible refine Kd.C_alloc ?_ _) | (with_reducible refine Kd.C_drewN ?_ _) | (with_reducible refine Kd.C_drew ?_))); (case side4 => exact (Kd.R_reads' HO_7.out).2.1); rintro e w' ⟨rfl, ⟨nd, rfl⟩⟩))
                      go_meet
                      case rel => exact ⟨_, (true), qS, H', ⟨by have := HJ11.out; first | omega | exact Nat.le_refl _⟩, ⟨qR HO_7.out⟩, ⟨qR HO_12.out⟩, ⟨by (with_reducible repeat (first | refine blk_drewN ?_ _ | refine blk_drew ?_ | refine blk_alloc ?_ _)); exact BK428.out⟩, ⟨qB⟩⟩
                  · replace c53 := Bool.eq_false_iff.mpr c53
                    subst c53
                    have H1 : (laws_FnExactSolve.j1 kj11 a1 t434 t435 t438 t439 t446 true a0_0 l0_1) = some r := by rw [if_neg (show ¬ (false = true) by decide)] at H; exact H
                    clear H
                    have H := H1
                    clear H1
                    have H' := Aside0.mk H
                    clear H
                    obtain ⟨Ao59, co59, eo59⟩ := Kd.R_slice HO_12.out
                    subst eo59
                    obtain ⟨Ao60, co60, eo60⟩ := Kd.R_slice HO_7.out
                    subst eo60
                    go_wp2_with (first | (go_at_call 17; (with_reducible refine (laws_eqBoolS.calls kj11 _ _ t446 _ _ t435 false _ ?side1 ?side2 ?side3 ?side4 A52.out).mono ?_); (case side1 => repeat (first | exact (Kd.R_reads' HO_12.out).2.2 | (with_reducible refine Kd.C_alloc ?_ _) | (with_reducible refine Kd.C_drewN ?_ _) | (with_reducible refine Kd.C_drew ?_))); (case side2 => exact (Kd.R_reads' HO_12.out).2.1); (case side3 => repeat (first | exact (Kd.R_reads' HO_7.out).2.2 | (with_reducible refine Kd.C_alloc ?_ _) | (with_reducible refine Kd.C_drewN ?_ _) | (with_reducible refine Kd.C_drew ?_))); (case side4 => exact (Kd.R_reads' HO_7.out).2.1); rintro e w' ⟨rfl, ⟨nd, rfl⟩⟩))
                    go_meet
                    case rel => exact ⟨_, (true), qS, H', ⟨by have := HJ11.out; first | omega | exact Nat.le_refl _⟩, ⟨qR HO_7.out⟩, ⟨qR HO_12.out⟩, ⟨by (with_reducible repeat (first | refine blk_drewN ?_ _ | refine blk_drew ?_ | refine blk_alloc ?_ _)); exact BK428.out⟩, ⟨qB⟩⟩
                · rw [if_neg c51] at H
                  have c51b0 : (t445 == t434) = false := beq_eq_false_iff_ne.mpr c51
                  have c51b1 : (t445 != t434) = true := bne_iff_ne.mpr c51
                  have H' := Aside0.mk H
                  clear H
                  go_wp2
                  go_meet
                  case rel => exact ⟨_, (true), qS, H', ⟨by have := HJ11.out; first | omega | exact Nat.le_refl _⟩, ⟨qR HO_7.out⟩, ⟨qR HO_12.out⟩, ⟨by (with_reducible repeat (first | refine blk_drewN ?_ _ | refine blk_drew ?_ | refine blk_alloc ?_ _)); exact BK428.out⟩, ⟨qB⟩⟩
            case rest =>
              clear HC42
              try clear c1
              try clear c2
              try clear p2
              try clear c3
              try clear c4
              try clear c4b0
              try clear c5
              try clear c7
              try clear c9
              try clear c11
              try clear c13
              try clear c23
              try clear c24
              try clear c27
              try clear c27b0
              try clear c27b1
              try clear c28
              try clear c29
              try clear c30
              try clear c30b0
              try clear c30b1
              try clear c37
              try clear c40
              try clear c47
              try clear c50
              try clear c50b0
              try clear c51
              try clear c51b0
              try clear c51b1
              try clear c53
              try clear c54
              try clear c54b0
              try clear c54b1
              try clear hcz14_0
              try clear hcz14_1
              try clear hcz16_0
              try clear hcz16_1
              try clear hcz20_0
              try clear hcz20_1
              try clear hcz24_0
              try clear hcz24_1
              try clear hcz48_0
              try clear hcz48_1
              try clear hcz6_0
              try clear hcz6_1
              try clear hfz14_0
              try clear hfz14_1
              try clear hfz16_0
              try clear hfz16_1
              try clear hfz20_0
              try clear hfz20_1
              try clear hfz24_0
              try clear hfz24_1
              try clear hfz48_0
              try clear hfz48_1
              try clear hfz6_0
              try clear hfz6_1
              try clear p2
              obtain ⟨kq, x95_41, rfl, HA, HJ41, HO_7, HO_12, BK428, HB⟩ := hcut
              cases kq with
              | zero => exact absurd HA.out (by simp [laws_FnExactSolve.j1])
              | succ kj41 =>
                have H := HA.out
                clear HA
                simp only [laws_FnExactSolve.j1] at H
                by_cases c61 : x95_41 = true
                · subst c61
                  have H1 : (some false) = some r := by rw [if_pos rfl] at H; exact H
                  clear H
                  have H := H1
                  clear H1
                  obtain rfl := Option.some.inj H
                  go_wp2
                  go_ret
                  exact ⟨qE, qB⟩
                · replace c61 := Bool.eq_false_iff.mpr c61
                  subst c61
                  have H1 : ((laws_markBoolS.f kj41 t446 1).bind fun bt459 => ((laws_heldBoolS.f kj41 bt459.2 1).bind fun t461 => (if t461 < 0 then (some false) else (if t461 = bt459.1 then ((laws_toCnf.f kj41 a0_0 l0_1).bind fun bt462 => ((impl_Solve.f kj41 bt462.1 bt462.2 a1).bind fun bt466 => (if bt466.1 = t434 then ((laws_eqBoolS.f kj41 bt466.2.1 t435).bind fun t472 => (if t472 = true then (if bt466.2.2.1 = t438 then (laws_FnExactSolve.j2 kj41 bt459.2 bt459.1 (bt466.2.2.2 != t439)) else (laws_FnExactSolve.j2 kj41 bt459.2 bt459.1 true)) else (laws_FnExactSolve.j2 kj41 bt459.2 bt459.1 true))) else (laws_FnExactSolve.j2 kj41 bt459.2 bt459.1 true)))) else (some false))))) = some r := by rw [if_neg (show ¬ (false = true) by decide)] at H; exact H
                  clear H
                  have H := H1
                  clear H1
                  replace H := Option.bind_eq_some_iff.mp H
                  obtain ⟨⟨t459, t460⟩, A620, H⟩ := H
                  replace H : ((laws_heldBoolS.f kj41 t460 1).bind fun t461 => (if t461 < 0 then (some false) else (if t461 = t459 then ((laws_toCnf.f kj41 a0_0 l0_1).bind fun bt462 => ((impl_Solve.f kj41 bt462.1 bt462.2 a1).bind fun bt466 => (if bt466.1 = t434 then ((laws_eqBoolS.f kj41 bt466.2.1 t435).bind fun t472 => (if t472 = true then (if bt466.2.2.1 = t438 then (laws_FnExactSolve.j2 kj41 t460 t459 (bt466.2.2.2 != t439)) else (laws_FnExactSolve.j2 kj41 t460 t459 true)) else (laws_FnExactSolve.j2 kj41 t460 t459 true))) else (laws_FnExactSolve.j2 kj41 t460 t459 true)))) else (some false)))) = some r := H
                  have A62 := Aside0.mk A620
                  clear A620
                  replace H := Option.bind_eq_some_iff.mp H
                  obtain ⟨t461, A630, H⟩ := H
                  replace H : (if t461 < 0 then (some false) else (if t461 = t459 then ((laws_toCnf.f kj41 a0_0 l0_1).bind fun bt462 => ((impl_Solve.f kj41 bt462.1 bt462.2 a1).bind fun bt466 => (if bt466.1 = t434 then ((laws_eqBoolS.f kj41 bt466.2.1 t435).bind fun t472 => (if t472 = true then (if bt466.2.2.1 = t438 then (laws_FnExactSolve.j2 kj41 t460 t459 (bt466.2.2.2 != t439)) else (laws_FnExactSolve.j2 kj41 t460 t459 true)) else (laws_FnExactSolve.j2 kj41 t460 t459 true))) else (laws_FnExactSolve.j2 kj41 t460 t459 true)))) else (some false))) = some r := H
                  have A63 := Aside0.mk A630
                  clear A630
                  by_cases c64 : t461 < 0
                  · rw [if_pos c64] at H
                    have c64b0 : decide (t461 < 0) = true := decide_eq_true c64
                    clear c64
                    obtain rfl := Option.some.inj H
                    obtain ⟨Ao65, co65, eo65⟩ := Kd.R_slice HO_12.out
                    subst eo65
                    go_wp2_with (first | ((with_reducible refine gate_callee (f := 29) rfl ?_); refine goesL_ (some 98) rfl rfl Try.func29 (by kernel_rfl) rfl #[.slice Ao65 t446.length co65, .int .i64 1] rfl qG ?_; (with_reducible refine (laws_markBoolS.calls kj41 (fun k_ => some k_ = (.slice Ao65 t446.length co65 : Value).ownBlock) (.slice Ao65 t446.length co65) t446 1 t459 t460 w _ ?side1 ?side2 A62.out).mono ?_); (case side1 => repeat (first | (with_reducible first | exact HB.out | apply below_alloc | apply pw_below_drewN | apply below_drew1 | refine below_set ?_ GE428.out) | exact HB.out)); (case side2 => exact Kd.R_tight rfl HO_12.out); rintro e w66 ⟨rfl, hy0, hb, hkp⟩; refine ⟨_, rfl, ?_⟩; have n0_ := Aside0.mk (Kd.R_mono (ok' := fun k_ => some k_ ≠ (.slice Ao65 t446.length co65 : Value).ownBlock) (Kd.R_keptB (HO_7.out) hkp (fun k_ hk_ hs_ => (hk_) hs_)) (fun k_ hk_ => hk_.1)); have n1_ := Aside0.mk (Kd.R_reok rfl hy0 (fun k_ e_ => HO_12.out.1 k_ e_)); have n2_ := Aside0.mk (blk_kept (qK BK428.out) hkp (fun hs_ => (fun e_ => (Kd.R_ne HO_12.out BK428.out (by decide)) e_) hs_)); have n3_ := Aside0.mk (hb); clear HO_7; clear HO_12; clear BK428; clear HB; have HO_7 := n0_; have HO_12 := n1_; have BK428 := n2_; have HB := n3_; clear n0_ n1_ n2_ n3_; (try clear hb); (try clear hkp); (try clear hy0)) | ((with_reducible refine gate_callee (f := 30) rfl ?_); refine goesL_ (some 101) rfl rfl Try.func30 (by kernel_rfl) rfl #[.slice Ao65 t460.length co65, .int .i64 1] rfl (by (try simp only [List.map_toArray, List.map_cons, List.map_nil]); first | done | (rw [show t460.length = t446.length from (Kd.R_reads' HO_12.out).1.symm] <;> rfl) | rfl | (simp only [List.length_drop, List.length_take]; rfl)) ?_; (with_reducible refine (laws_heldBoolS.calls kj41 _ _ t460 1 t461 _ ?side1 ?side2 A63.out).mono ?_); (case side1 => repeat (first | exact (Kd.R_reads' HO_12.out).2.2 | (with_reducible refine Kd.C_alloc ?_ _) | (with_reducible refine Kd.C_drewN ?_ _) | (with_reducible refine Kd.C_drew ?_))); (case side2 => rw [show t460.length = t446.length from (Kd.R_reads' HO_12.out).1.symm]; exact (Kd.R_reads' HO_12.out).2.1); rintro e w' ⟨rfl, ⟨nd, rfl⟩⟩; refine ⟨_, rfl, ?_⟩))
                    go_ret
                    exact ⟨qE, qB⟩
                  · rw [if_neg c64] at H
                    have c64b0 : decide (t461 < 0) = false := decide_eq_false c64
                    clear c64
                    by_cases c67 : t461 = t459
                    · rw [if_pos c67] at H
                      have c67b0 : (t461 == t459) = true := beq_iff_eq.mpr c67
                      have c67b1 : (t461 != t459) = false := bne_eq_false_iff_eq.mpr c67
                      clear c67
                      replace H := Option.bind_eq_some_iff.mp H
                      obtain ⟨⟨t462, t463⟩, A680, H⟩ := H
                      replace H : ((impl_Solve.f kj41 t462 t463 a1).bind fun bt466 => (if bt466.1 = t434 then ((laws_eqBoolS.f kj41 bt466.2.1 t435).bind fun t472 => (if t472 = true then (if bt466.2.2.1 = t438 then (laws_FnExactSolve.j2 kj41 t460 t459 (bt466.2.2.2 != t439)) else (laws_FnExactSolve.j2 kj41 t460 t459 true)) else (laws_FnExactSolve.j2 kj41 t460 t459 true))) else (laws_FnExactSolve.j2 kj41 t460 t459 true))) = some r := H
                      have A68 := Aside0.mk A680
                      clear A680
                      replace H := Option.bind_eq_some_iff.mp H
                      obtain ⟨⟨t466, t467, t470, t471⟩, A690, H⟩ := H
                      replace H : (if t466 = t434 then ((laws_eqBoolS.f kj41 t467 t435).bind fun t472 => (if t472 = true then (if t470 = t438 then (laws_FnExactSolve.j2 kj41 t460 t459 (t471 != t439)) else (laws_FnExactSolve.j2 kj41 t460 t459 true)) else (laws_FnExactSolve.j2 kj41 t460 t459 true))) else (laws_FnExactSolve.j2 kj41 t460 t459 true)) = some r := H
                      have A69 := Aside0.mk A690
                      clear A690
                      have HC70 := Aside0.mk H
                      clear H
                      obtain ⟨Ao71, co71, eo71⟩ := Kd.R_slice HO_12.out
                      subst eo71
                      go_upto_region 25 with (first | ((with_reducible refine gate_callee (f := 29) rfl ?_); refine goesL_ (some 98) rfl rfl Try.func29 (by kernel_rfl) rfl #[.slice Ao71 t446.length co71, .int .i64 1] rfl qG ?_; (with_reducible refine (laws_markBoolS.calls kj41 (fun k_ => some k_ = (.slice Ao71 t446.length co71 : Value).ownBlock) (.slice Ao71 t446.length co71) t446 1 t459 t460 w _ ?side1 ?side2 A62.out).mono ?_); (case side1 => repeat (first | (with_reducible first | exact HB.out | apply below_alloc | apply pw_below_drewN | apply below_drew1 | refine below_set ?_ GE428.out) | exact HB.out)); (case side2 => exact Kd.R_tight rfl HO_12.out); rintro e w72 ⟨rfl, hy0, hb, hkp⟩; refine ⟨_, rfl, ?_⟩; have n0_ := Aside0.mk (Kd.R_mono (ok' := fun k_ => some k_ ≠ (.slice Ao71 t446.length co71 : Value).ownBlock) (Kd.R_keptB (HO_7.out) hkp (fun k_ hk_ hs_ => (hk_) hs_)) (fun k_ hk_ => hk_.1)); have n1_ := Aside0.mk (Kd.R_reok rfl hy0 (fun k_ e_ => HO_12.out.1 k_ e_)); have n2_ := Aside0.mk (blk_kept (qK BK428.out) hkp (fun hs_ => (fun e_ => (Kd.R_ne HO_12.out BK428.out (by decide)) e_) hs_)); have n3_ := Aside0.mk (hb); clear HO_7; clear HO_12; clear BK428; clear HB; have HO_7 := n0_; have HO_12 := n1_; have BK428 := n2_; have HB := n3_; clear n0_ n1_ n2_ n3_; (try clear hb); (try clear hkp); (try clear hy0)) | ((with_reducible refine gate_callee (f := 30) rfl ?_); refine goesL_ (some 101) rfl rfl Try.func30 (by kernel_rfl) rfl #[.slice Ao71 t460.length co71, .int .i64 1] rfl (by (try simp only [List.map_toArray, List.map_cons, List.map_nil]); first | done | (rw [show t460.length = t446.length from (Kd.R_reads' HO_12.out).1.symm] <;> rfl) | rfl | (simp only [List.length_drop, List.length_take]; rfl)) ?_; (with_reducible refine (laws_heldBoolS.calls kj41 _ _ t460 1 t461 _ ?side1 ?side2 A63.out).mono ?_); (case side1 => repeat (first | exact (Kd.R_reads' HO_12.out).2.2 | (with_reducible refine Kd.C_alloc ?_ _) | (with_reducible refine Kd.C_drewN ?_ _) | (with_reducible refine Kd.C_drew ?_))); (case side2 => rw [show t460.length = t446.length from (Kd.R_reads' HO_12.out).1.symm]; exact (Kd.R_reads' HO_12.out).2.1); rintro e w' ⟨rfl, ⟨nd, rfl⟩⟩; refine ⟨_, rfl, ?_⟩; have hcz73_0 : w72.cell? ⟨gb428, 0, none⟩ = some (.int .i64 a0_0) := (blk_cell BK428.out 0).trans rfl; have hcz73_1 : w72.cell? ⟨gb428, 1, none⟩ = some (.slice A0_1 l0_1.length c0_1) := (blk_cell BK428.out 1).trans rfl; have hfz73_0 := blk_frozen BK428.out 0; have hfz73_1 := blk_frozen BK428.out 1) | ((with_reducible refine gate_callee (f := 11) rfl ?_); refine goesL_ (some 109) rfl rfl Try.func11 (by kernel_rfl) rfl #[.agg #[.int .i64 a0_0, .slice A0_1 l0_1.length c0_1]] rfl qG ?_; (with_reducible refine (laws_toCnf.calls kj41 a0_0 _ _ l0_1 t462 t463 _ ?side1 ?side2 A68.out).mono ?_); (case side1 => repeat (first | exact (Kd.C_below HR0_1.out (qB)) | (with_reducible refine Kd.C_alloc ?_ _) | (with_reducible refine Kd.C_drewN ?_ _) | (with_reducible refine Kd.C_drew ?_))); (case side2 => exact HC0_1.out); rintro e w74 ⟨v464, rfl, ho0, hb⟩; refine ⟨_, rfl, ?_⟩; have n0_ := Aside0.mk (Kd.R_below (qR HO_7.out) hb); have n1_ := Aside0.mk (Kd.R_below (qR HO_12.out) hb); have n2_ := Aside0.mk (Kd.S_lower ho0 (below_size (qB))); have n3_ := Aside0.mk (blk_below (g := gb428) (o := .cells #[.int .i64 a0_0, .slice A0_1 l0_1.length c0_1] 24 (0, 0)) (qK BK428.out) hb); have n4_ := Aside0.mk (below_step (qB) hb); clear HO_7; clear HO_12; clear BK428; clear HB; have HO_7 := n0_; have HO_12 := n1_; have HO465 := n2_; have BK428 := n3_; have HB := n4_; clear n0_ n1_ n2_ n3_ n4_; (try clear hb); (try clear hb2); (try clear hk); (try clear hi); (try clear ho0); obtain ⟨Ao75, co75, eo75⟩ := Kd.S_slice HO465.out; subst eo75) | ((with_reducible refine gate_callee (f := 28) rfl ?_); refine goesL_ (some 111) rfl rfl Try.func28 (by kernel_rfl) rfl #[.agg #[.int .i64 t462, .slice Ao75 t463.length co75], .int .i64 a1] rfl qG ?_; (with_reducible refine (impl_Solve.calls kj41 t462 _ _ t463 a1 t466 t467 t470 t471 _ ?side1 ?side2 A69.out).mono ?_); (case side1 => repeat (first | exact (Kd.S_reads' HO465.out).2.2 | (with_reducible refine Kd.C_alloc ?_ _) | (with_reducible refine Kd.C_drewN ?_ _) | (with_reducible refine Kd.C_drew ?_))); (case side2 => exact (Kd.S_reads' HO465.out).2.1); rintro e w76 ⟨v468, rfl, ho0, hb⟩; refine ⟨_, rfl, ?_⟩; have n0_ := Aside0.mk (Kd.R_elder' (qR HO_7.out) (Kd.R_base ho0) hb); have n1_ := Aside0.mk (Kd.R_elder' (qR HO_12.out) (Kd.R_base ho0) hb); have n2_ := Aside0.mk (Kd.S_below (by (with_reducible repeat (first | apply Kd.S_alloc | apply Kd.S_drewN | apply Kd.S_drew)); exact HO465.out) hb); have n3_ := Aside0.mk (Kd.R_lower (Kd.R_new' (Kd.R_new' ho0 (Kd.R_lt (qR HO_7.out))) (Kd.R_lt (qR HO_12.out))) (below_size (qB))); have n4_ := Aside0.mk (blk_below (g := gb428) (o := .cells #[.int .i64 a0_0, .slice A0_1 l0_1.length c0_1] 24 (0, 0)) (qK BK428.out) hb); have n5_ := Aside0.mk (below_step (qB) hb); clear HO_7; clear HO_12; clear HO465; clear BK428; clear HB; have HO_7 := n0_; have HO_12 := n1_; have HO465 := n2_; have HO469 := n3_; have BK428 := n4_; have HB := n5_; clear n0_ n1_ n2_ n3_ n4_ n5_; (try clear hb); (try clear hb2); (try clear hk); (try clear hi); (try clear ho0)))
                      (try simp only [Act.put, List.setIfInBounds_toArray, List.set_cons_zero, List.set_cons_succ])
                      go_cut [134] (fun v134 wc => ∃ (kq : Nat) (x134_69 : Bool), v134 = .bool x134_69 ∧ Aside0 (laws_FnExactSolve.j2 kq t460 t459 x134_69 = some r) ∧ Aside0 (kq ≤ kj41) ∧ Aside0 (Kd.R Kd.bool 4 wc w.heap.size (fun _ => True) (.slice Ao71 t446.length co71) t460) ∧ Aside0 (wc.heap[gb428]? = some (.cells #[.int .i64 a0_0, (.slice A0_1 l0_1.length c0_1)] 24 (0, 0))) ∧ Aside0 (Below w.heap.size w wc))
                      case first =>
                        have H := HC70.out
                        clear HC70
                        by_cases c77 : t466 = t434
                        · rw [if_pos c77] at H
                          have c77b0 : (t466 == t434) = true := beq_iff_eq.mpr c77
                          have c77b1 : (t466 != t434) = false := bne_eq_false_iff_eq.mpr c77
                          clear c77
                          (first | rw [c77b0] | (simp only [i64_w, i32_w]; rw [c77b0]) | skip)
                          replace H := Option.bind_eq_some_iff.mp H
                          obtain ⟨t472, A780, H⟩ := H
                          replace H : (if t472 = true then (if t470 = t438 then (laws_FnExactSolve.j2 kj41 t460 t459 (t471 != t439)) else (laws_FnExactSolve.j2 kj41 t460 t459 true)) else (laws_FnExactSolve.j2 kj41 t460 t459 true)) = some r := H
                          have A78 := Aside0.mk A780
                          clear A780
                          by_cases c79 : t472 = true
                          · subst c79
                            have H1 : (if t470 = t438 then (laws_FnExactSolve.j2 kj41 t460 t459 (t471 != t439)) else (laws_FnExactSolve.j2 kj41 t460 t459 true)) = some r := by rw [if_pos rfl] at H; exact H
                            clear H
                            have H := H1
                            clear H1
                            by_cases c80 : t470 = t438
                            · rw [if_pos c80] at H
                              have c80b0 : (t470 == t438) = true := beq_iff_eq.mpr c80
                              have c80b1 : (t470 != t438) = false := bne_eq_false_iff_eq.mpr c80
                              clear c80
                              have H' := Aside0.mk H
                              clear H
                              obtain ⟨Ao81, co81, eo81⟩ := Kd.R_slice HO469.out
                              subst eo81
                              obtain ⟨Ao82, co82, eo82⟩ := Kd.R_slice HO_7.out
                              subst eo82
                              go_wp2_with (first | (go_at_call 17; (with_reducible refine (laws_eqBoolS.calls kj41 _ _ t467 _ _ t435 true _ ?side1 ?side2 ?side3 ?side4 A78.out).mono ?_); (case side1 => repeat (first | exact (Kd.R_reads' HO469.out).2.2 | (with_reducible refine Kd.C_alloc ?_ _) | (with_reducible refine Kd.C_drewN ?_ _) | (with_reducible refine Kd.C_drew ?_))); (case side2 => exact (Kd.R_reads' HO469.out).2.1); (case side3 => repeat (first | exact (Kd.R_reads' HO_7.out).2.2 | (with_reducible refine Kd.C_alloc ?_ _) | (with_reducible refine Kd.C_drewN ?_ _) | (with_reducible refine Kd.C_drew ?_))); (case side4 => exact (Kd.R_reads' HO_7.out).2.1); rintro e w' ⟨rfl, ⟨nd, rfl⟩⟩))
                              go_meet
                              case rel => exact ⟨_, ((t471 != t439)), qS, H', ⟨by have := HJ11.out; have := HJ41.out; first | omega | exact Nat.le_refl _⟩, ⟨by (with_reducible repeat (first | apply Kd.R_alloc | apply Kd.R_drewN | apply Kd.R_drew)); exact Kd.R_mono HO_12.out (fun _ hk => trivial)⟩, ⟨by (with_reducible repeat (first | refine blk_drewN ?_ _ | refine blk_drew ?_ | refine blk_alloc ?_ _)); exact BK428.out⟩, ⟨qB⟩⟩
                            · rw [if_neg c80] at H
                              have c80b0 : (t470 == t438) = false := beq_eq_false_iff_ne.mpr c80
                              have c80b1 : (t470 != t438) = true := bne_iff_ne.mpr c80
                              have H' := Aside0.mk H
                              clear H
                              obtain ⟨Ao83, co83, eo83⟩ := Kd.R_slice HO469.out
                              subst eo83
                              obtain ⟨Ao84, co84, eo84⟩ := Kd.R_slice HO_7.out
                              subst eo84
                              go_wp2_with (first | (go_at_call 17; (with_reducible refine (laws_eqBoolS.calls kj41 _ _ t467 _ _ t435 true _ ?side1 ?side2 ?side3 ?side4 A78.out).mono ?_); (case side1 => repeat (first | exact (Kd.R_reads' HO469.out).2.2 | (with_reducible refine Kd.C_alloc ?_ _) | (with_reducible refine Kd.C_drewN ?_ _) | (with_reducible refine Kd.C_drew ?_))); (case side2 => exact (Kd.R_reads' HO469.out).2.1); (case side3 => repeat (first | exact (Kd.R_reads' HO_7.out).2.2 | (with_reducible refine Kd.C_alloc ?_ _) | (with_reducible refine Kd.C_drewN ?_ _) | (with_reducible refine Kd.C_drew ?_))); (case side4 => exact (Kd.R_reads' HO_7.out).2.1); rintro e w' ⟨rfl, ⟨nd, rfl⟩⟩))
                              go_meet
                              case rel => exact ⟨_, (true), qS, H', ⟨by have := HJ11.out; have := HJ41.out; first | omega | exact Nat.le_refl _⟩, ⟨by (with_reducible repeat (first | apply Kd.R_alloc | apply Kd.R_drewN | apply Kd.R_drew)); exact Kd.R_mono HO_12.out (fun _ hk => trivial)⟩, ⟨by (with_reducible repeat (first | refine blk_drewN ?_ _ | refine blk_drew ?_ | refine blk_alloc ?_ _)); exact BK428.out⟩, ⟨qB⟩⟩
                          · replace c79 := Bool.eq_false_iff.mpr c79
                            subst c79
                            have H1 : (laws_FnExactSolve.j2 kj41 t460 t459 true) = some r := by rw [if_neg (show ¬ (false = true) by decide)] at H; exact H
                            clear H
                            have H := H1
                            clear H1
                            have H' := Aside0.mk H
                            clear H
                            obtain ⟨Ao85, co85, eo85⟩ := Kd.R_slice HO469.out
                            subst eo85
                            obtain ⟨Ao86, co86, eo86⟩ := Kd.R_slice HO_7.out
                            subst eo86
                            go_wp2_with (first | (go_at_call 17; (with_reducible refine (laws_eqBoolS.calls kj41 _ _ t467 _ _ t435 false _ ?side1 ?side2 ?side3 ?side4 A78.out).mono ?_); (case side1 => repeat (first | exact (Kd.R_reads' HO469.out).2.2 | (with_reducible refine Kd.C_alloc ?_ _) | (with_reducible refine Kd.C_drewN ?_ _) | (with_reducible refine Kd.C_drew ?_))); (case side2 => exact (Kd.R_reads' HO469.out).2.1); (case side3 => repeat (first | exact (Kd.R_reads' HO_7.out).2.2 | (with_reducible refine Kd.C_alloc ?_ _) | (with_reducible refine Kd.C_drewN ?_ _) | (with_reducible refine Kd.C_drew ?_))); (case side4 => exact (Kd.R_reads' HO_7.out).2.1); rintro e w' ⟨rfl, ⟨nd, rfl⟩⟩))
                            go_meet
                            case rel => exact ⟨_, (true), qS, H', ⟨by have := HJ11.out; have := HJ41.out; first | omega | exact Nat.le_refl _⟩, ⟨by (with_reducible repeat (first | apply Kd.R_alloc | apply Kd.R_drewN | apply Kd.R_drew)); exact Kd.R_mono HO_12.out (fun _ hk => trivial)⟩, ⟨by (with_reducible repeat (first | refine blk_drewN ?_ _ | refine blk_drew ?_ | refine blk_alloc ?_ _)); exact BK428.out⟩, ⟨qB⟩⟩
                        · rw [if_neg c77] at H
                          have c77b0 : (t466 == t434) = false := beq_eq_false_iff_ne.mpr c77
                          have c77b1 : (t466 != t434) = true := bne_iff_ne.mpr c77
                          (first | rw [c77b0] | (simp only [i64_w, i32_w]; rw [c77b0]) | skip)
                          have H' := Aside0.mk H
                          clear H
                          go_wp2
                          go_meet
                          case rel => exact ⟨_, (true), qS, H', ⟨by have := HJ11.out; have := HJ41.out; first | omega | exact Nat.le_refl _⟩, ⟨by (with_reducible repeat (first | apply Kd.R_alloc | apply Kd.R_drewN | apply Kd.R_drew)); exact Kd.R_mono HO_12.out (fun _ hk => trivial)⟩, ⟨by (with_reducible repeat (first | refine blk_drewN ?_ _ | refine blk_drew ?_ | refine blk_alloc ?_ _)); exact BK428.out⟩, ⟨qB⟩⟩
                      case rest =>
                        clear HC70
                        try clear c1
                        try clear c2
                        try clear p2
                        try clear c3
                        try clear c4
                        try clear c4b0
                        try clear c5
                        try clear c6
                        try clear c7
                        try clear c8
                        try clear c9
                        try clear c11
                        try clear c13
                        try clear c23
                        try clear c24
                        try clear c27
                        try clear c27b0
                        try clear c27b1
                        try clear c28
                        try clear c29
                        try clear c30
                        try clear c30b0
                        try clear c30b1
                        try clear c37
                        try clear c40
                        try clear c47
                        try clear c50
                        try clear c50b0
                        try clear c51
                        try clear c51b0
                        try clear c51b1
                        try clear c53
                        try clear c54
                        try clear c54b0
                        try clear c54b1
                        try clear c61
                        try clear c64
                        try clear c64b0
                        try clear c67
                        try clear c67b0
                        try clear c67b1
                        try clear c77
                        try clear c77b0
                        try clear c77b1
                        try clear c79
                        try clear c80
                        try clear c80b0
                        try clear c80b1
                        try clear hcz14_0
                        try clear hcz14_1
                        try clear hcz16_0
                        try clear hcz16_1
                        try clear hcz20_0
                        try clear hcz20_1
                        try clear hcz24_0
                        try clear hcz24_1
                        try clear hcz48_0
                        try clear hcz48_1
                        try clear hcz6_0
                        try clear hcz6_1
                        try clear hcz73_0
                        try clear hcz73_1
                        try clear hfz14_0
                        try clear hfz14_1
                        try clear hfz16_0
                        try clear hfz16_1
                        try clear hfz20_0
                        try clear hfz20_1
                        try clear hfz24_0
                        try clear hfz24_1
                        try clear hfz48_0
                        try clear hfz48_1
                        try clear hfz6_0
                        try clear hfz6_1
                        try clear hfz73_0
                        try clear hfz73_1
                        try clear p2
                        obtain ⟨kq, x134_69, rfl, HA, HJ69, HO_12, BK428, HB⟩ := hcut
                        have hl12_69 := (Kd.R_reads' HO_12.out).1
                        rw [hl12_69] at HO_12
                        (try simp only [hl12_69])
                        (try simp only [hl12_69] at BK428)
                        cases kq with
                        | zero => exact absurd HA.out (by simp [laws_FnExactSolve.j2])
                        | succ kj69 =>
                          have H := HA.out
                          clear HA
                          simp only [laws_FnExactSolve.j2] at H
                          by_cases c87 : x134_69 = true
                          · subst c87
                            have H1 : (some false) = some r := by rw [if_pos rfl] at H; exact H
                            clear H
                            have H := H1
                            clear H1
                            obtain rfl := Option.some.inj H
                            go_wp2
                            go_ret
                            exact ⟨qE, qB⟩
                          · replace c87 := Bool.eq_false_iff.mpr c87
                            subst c87
                            have H1 : ((laws_heldBoolS.f kj69 t460 1).bind fun t473 => (if t473 < 0 then (some false) else (if t473 = t459 then (some true) else (some false)))) = some r := by rw [if_neg (show ¬ (false = true) by decide)] at H; exact H
                            clear H
                            have H := H1
                            clear H1
                            replace H := Option.bind_eq_some_iff.mp H
                            obtain ⟨t473, A880, H⟩ := H
                            replace H : (if t473 < 0 then (some false) else (if t473 = t459 then (some true) else (some false))) = some r := H
                            have A88 := Aside0.mk A880
                            clear A880
                            by_cases c89 : t473 < 0
                            · rw [if_pos c89] at H
                              have c89b0 : decide (t473 < 0) = true := decide_eq_true c89
                              clear c89
                              obtain rfl := Option.some.inj H
                              go_wp2_with (first | ((with_reducible refine gate_callee (f := 30) rfl ?_); refine goesL_ (some 137) rfl rfl Try.func30 (by kernel_rfl) rfl #[.slice Ao71 t460.length co71, .int .i64 1] rfl qG ?_; (with_reducible refine (laws_heldBoolS.calls kj69 _ _ t460 1 t473 _ ?side1 ?side2 A88.out).mono ?_); (case side1 => repeat (first | exact (Kd.R_reads' HO_12.out).2.2 | (with_reducible refine Kd.C_alloc ?_ _) | (with_reducible refine Kd.C_drewN ?_ _) | (with_reducible refine Kd.C_drew ?_))); (case side2 => exact (Kd.R_reads' HO_12.out).2.1); rintro e w' ⟨rfl, ⟨nd, rfl⟩⟩; refine ⟨_, rfl, ?_⟩))
                              go_ret
                              exact ⟨qE, qB⟩
                            · rw [if_neg c89] at H
                              have c89b0 : decide (t473 < 0) = false := decide_eq_false c89
                              clear c89
                              by_cases c90 : t473 = t459
                              · rw [if_pos c90] at H
                                have c90b0 : (t473 == t459) = true := beq_iff_eq.mpr c90
                                have c90b1 : (t473 != t459) = false := bne_eq_false_iff_eq.mpr c90
                                clear c90
                                obtain rfl := Option.some.inj H
                                go_wp2_with (first | ((with_reducible refine gate_callee (f := 30) rfl ?_); refine goesL_ (some 137) rfl rfl Try.func30 (by kernel_rfl) rfl #[.slice Ao71 t460.length co71, .int .i64 1] rfl qG ?_; (with_reducible refine (laws_heldBoolS.calls kj69 _ _ t460 1 t473 _ ?side1 ?side2 A88.out).mono ?_); (case side1 => repeat (first | exact (Kd.R_reads' HO_12.out).2.2 | (with_reducible refine Kd.C_alloc ?_ _) | (with_reducible refine Kd.C_drewN ?_ _) | (with_reducible refine Kd.C_drew ?_))); (case side2 => exact (Kd.R_reads' HO_12.out).2.1); rintro e w' ⟨rfl, ⟨nd, rfl⟩⟩; refine ⟨_, rfl, ?_⟩))
                                go_ret
                                exact ⟨qE, qB⟩
                              · rw [if_neg c90] at H
                                have c90b0 : (t473 == t459) = false := beq_eq_false_iff_ne.mpr c90
                                have c90b1 : (t473 != t459) = true := bne_iff_ne.mpr c90
                                obtain rfl := Option.some.inj H
                                go_wp2_with (first | ((with_reducible refine gate_callee (f := 30) rfl ?_); refine goesL_ (some 137) rfl rfl Try.func30 (by kernel_rfl) rfl #[.slice Ao71 t460.length co71, .int .i64 1] rfl qG ?_; (with_reducible refine (laws_heldBoolS.calls kj69 _ _ t460 1 t473 _ ?side1 ?side2 A88.out).mono ?_); (case side1 => repeat (first | exact (Kd.R_reads' HO_12.out).2.2 | (with_reducible refine Kd.C_alloc ?_ _) | (with_reducible refine Kd.C_drewN ?_ _) | (with_reducible refine Kd.C_drew ?_))); (case side2 => exact (Kd.R_reads' HO_12.out).2.1); rintro e w' ⟨rfl, ⟨nd, rfl⟩⟩; refine ⟨_, rfl, ?_⟩))
                                go_ret
                                exact ⟨qE, qB⟩
                    · rw [if_neg c67] at H
                      have c67b0 : (t461 == t459) = false := beq_eq_false_iff_ne.mpr c67
                      have c67b1 : (t461 != t459) = true := bne_iff_ne.mpr c67
                      obtain rfl := Option.some.inj H
                      obtain ⟨Ao91, co91, eo91⟩ := Kd.R_slice HO_12.out
                      subst eo91
                      go_wp2_with (first | ((with_reducible refine gate_callee (f := 29) rfl ?_); refine goesL_ (some 98) rfl rfl Try.func29 (by kernel_rfl) rfl #[.slice Ao91 t446.length co91, .int .i64 1] rfl qG ?_; (with_reducible refine (laws_markBoolS.calls kj41 (fun k_ => some k_ = (.slice Ao91 t446.length co91 : Value).ownBlock) (.slice Ao91 t446.length co91) t446 1 t459 t460 w _ ?side1 ?side2 A62.out).mono ?_); (case side1 => repeat (first | (with_reducible first | exact HB.out | apply below_alloc | apply pw_below_drewN | apply below_drew1 | refine below_set ?_ GE428.out) | exact HB.out)); (case side2 => exact Kd.R_tight rfl HO_12.out); rintro e w92 ⟨rfl, hy0, hb, hkp⟩; refine ⟨_, rfl, ?_⟩; have n0_ := Aside0.mk (Kd.R_mono (ok' := fun k_ => some k_ ≠ (.slice Ao91 t446.length co91 : Value).ownBlock) (Kd.R_keptB (HO_7.out) hkp (fun k_ hk_ hs_ => (hk_) hs_)) (fun k_ hk_ => hk_.1)); have n1_ := Aside0.mk (Kd.R_reok rfl hy0 (fun k_ e_ => HO_12.out.1 k_ e_)); have n2_ := Aside0.mk (blk_kept (qK BK428.out) hkp (fun hs_ => (fun e_ => (Kd.R_ne HO_12.out BK428.out (by decide)) e_) hs_)); have n3_ := Aside0.mk (hb); clear HO_7; clear HO_12; clear BK428; clear HB; have HO_7 := n0_; have HO_12 := n1_; have BK428 := n2_; have HB := n3_; clear n0_ n1_ n2_ n3_; (try clear hb); (try clear hkp); (try clear hy0)) | ((with_reducible refine gate_callee (f := 30) rfl ?_); refine goesL_ (some 101) rfl rfl Try.func30 (by kernel_rfl) rfl #[.slice Ao91 t460.length co91, .int .i64 1] rfl (by (try simp only [List.map_toArray, List.map_cons, List.map_nil]); first | done | (rw [show t460.length = t446.length from (Kd.R_reads' HO_12.out).1.symm] <;> rfl) | rfl | (simp only [List.length_drop, List.length_take]; rfl)) ?_; (with_reducible refine (laws_heldBoolS.calls kj41 _ _ t460 1 t461 _ ?side1 ?side2 A63.out).mono ?_); (case side1 => repeat (first | exact (Kd.R_reads' HO_12.out).2.2 | (with_reducible refine Kd.C_alloc ?_ _) | (with_reducible refine Kd.C_drewN ?_ _) | (with_reducible refine Kd.C_drew ?_))); (case side2 => rw [show t460.length = t446.length from (Kd.R_reads' HO_12.out).1.symm]; exact (Kd.R_reads' HO_12.out).2.1); rintro e w' ⟨rfl, ⟨nd, rfl⟩⟩; refine ⟨_, rfl, ?_⟩))
                      go_ret
                      exact ⟨qE, qB⟩
          · replace c40 := Bool.eq_false_iff.mpr c40
            subst c40
            have H1 : (some false) = some r := by rw [if_neg (show ¬ (false = true) by decide)] at H; exact H
            clear H
            have H := H1
            clear H1
            obtain rfl := Option.some.inj H
            try go_wp2
            have n0_ := Aside0.mk (Kd.R_drew HO_7.out)
            have n1_ := Aside0.mk (Kd.R_drew HO_12.out)
            have n2_ := Aside0.mk (Kd.S_drew HO_445001.out)
            have n3_ := Aside0.mk (blk_drew BK428.out)
            have n4_ := Aside0.mk (blk_drew BK444.out)
            have n5_ := Aside0.mk (below_drew1 HB.out)
            clear HO_7
            clear HO_12
            clear HO_445001
            clear BK428
            clear BK444
            clear HB
            have HO_7 := n0_
            have HO_12 := n1_
            have HO_445001 := n2_
            have BK428 := n3_
            have BK444 := n4_
            have HB := n5_
            clear n0_ n1_ n2_ n3_ n4_ n5_
            refine start_ (n := 5) (S := fun w' => w'.cell? ⟨gb444, 0, none⟩ = some (.int .i64 t440) ∧ w'.cell? ⟨gb444, 1, none⟩ = some (.slice Ao25 t441.length co25) ∧ w'.cell? ⟨gb428, 0, none⟩ = some (.int .i64 a0_0) ∧ w'.cell? ⟨gb428, 1, none⟩ = some (.slice A0_1 l0_1.length c0_1)) (ds := []) #[false, false, false, false, false] (by kernel_rfl) rfl rfl ⟨(blk_cell BK444.out 0).trans rfl, (blk_cell BK444.out 1).trans rfl, (blk_cell BK428.out 0).trans rfl, (blk_cell BK428.out 1).trans rfl⟩ (fun hHeld => ?_)
            generalize wc.drew = w93 at HO_7 HO_12 HO_445001 BK428 BK444 HB hHeld ⊢
            refine take_ (i := 0) (N := some 65) (v := ?_) (a' := ?_) #[true, false, false, false, false] rfl rfl (by kernel_rfl) (fun _ _ _ h => h) (Or.inl ⟨by rfl, ?_⟩) hHeld ?_ ?_
            rotate_left
            · rintro w' ⟨s0, s1, s2, s3⟩
              go_simp
              with_reducible rfl
            rotate_left
            · simp only [Act.put, List.setIfInBounds_toArray, List.set_cons_zero, List.set_cons_succ, i64_w, i32_w]
              rfl
            refine take_ (i := 1) (N := some 66) (v := ?_) (a' := ?_) #[true, true, false, false, false] rfl rfl (by kernel_rfl) (fun _ _ _ h => h) (Or.inl ⟨by rfl, ?_⟩) hHeld ?_ ?_
            rotate_left
            · rintro w' ⟨s0, s1, s2, s3⟩
              go_simp
              with_reducible rfl
            rotate_left
            · simp only [Act.put, List.setIfInBounds_toArray, List.set_cons_zero, List.set_cons_succ, i64_w, i32_w]
              rfl
            refine one_ (i := 2) (N := some 67) #[true, true, true, false, false] rfl rfl (by kernel_rfl) (by decide) (fun K hK => ?_)
            refine goes_ Try.func11 (by kernel_rfl) rfl #[.agg #[.int .i64 a0_0, .slice A0_1 l0_1.length c0_1]] (by rfl) rfl rfl qG ?_
            with_reducible refine (laws_toCnf.calls kj11 a0_0 _ _ l0_1 t452 t453 _ ?side1 ?side2 A38.out).mono ?_
            (case side1 => exact qC (Kd.C_below HR0_1.out HB.out))
            (case side2 => exact HC0_1.out)
            rintro e w94 ⟨v454, rfl, ho0, hb⟩
            refine ⟨_, rfl, ?_⟩
            have n0_ := Aside0.mk (Kd.R_below (qR HO_7.out) hb)
            have n1_ := Aside0.mk (Kd.R_below (qR HO_12.out) hb)
            have n2_ := Aside0.mk (Kd.S_elder' (by (with_reducible repeat (first | apply Kd.S_alloc | apply Kd.S_drewN | apply Kd.S_drew)); exact HO_445001.out) (Kd.S_base ho0) hb)
            have n3_ := Aside0.mk (Kd.S_lower (Kd.S_new' ho0 (Kd.S_lt (by (with_reducible repeat (first | apply Kd.S_alloc | apply Kd.S_drewN | apply Kd.S_drew)); exact HO_445001.out))) (below_size (qB)))
            have n4_ := Aside0.mk (blk_below (g := gb428) (o := .cells #[.int .i64 a0_0, .slice A0_1 l0_1.length c0_1] 24 (0, 0)) (qK BK428.out) hb)
            have n5_ := Aside0.mk (blk_below (g := gb444) (o := .cells #[.int .i64 t440, .slice Ao25 t441.length co25] 27 (0, 0)) (qK BK444.out) hb)
            have n6_ := Aside0.mk (below_step (qB) hb)
            clear HO_7
            clear HO_12
            clear HO_445001
            clear BK428
            clear BK444
            clear HB
            have HO_7 := n0_
            have HO_12 := n1_
            have HO_445001 := n2_
            have HO455 := n3_
            have BK428 := n4_
            have BK444 := n5_
            have HB := n6_
            clear n0_ n1_ n2_ n3_ n4_ n5_ n6_
            (try clear hb)
            (try clear hb2)
            (try clear hk)
            (try clear hi)
            (try clear ho0)
            obtain ⟨Ao95, co95, eo95⟩ := Kd.S_slice HO455.out
            (first | subst eo95 | (injection eo95 with f1_ f2_ f3_; have f4_ := f1_.symm; have f5_ := f3_.symm; clear f1_ f2_ f3_; subst f4_; subst f5_))
            refine hK.out _ _ ⟨(blk_cell BK444.out 0).trans rfl, (blk_cell BK444.out 1).trans rfl, (blk_cell BK428.out 0).trans rfl, (blk_cell BK428.out 1).trans rfl⟩ (fun hHeld => ?_)
            clear hK K
            refine norm_ (a' := ?_) ?_ ?_
            rotate_left
            · show Act.put _ (some 67) _ = _
              simp only [Act.put, List.setIfInBounds_toArray, List.set_cons_zero, List.set_cons_succ, i64_w, i32_w]
              rfl
            refine one_ (i := 3) (N := some 68) #[true, true, true, true, false] rfl rfl (by kernel_rfl) (by decide) (fun K hK => ?_)
            refine goes_ Try.func13 (by kernel_rfl) rfl #[.agg #[.int .i64 t440, .slice Ao25 t441.length co25], .agg #[.int .i64 t452, .slice Ao95 t453.length co95]] (by rfl) rfl rfl qG ?_
            with_reducible refine (laws_eqCnf.calls kj11 t440 _ _ t441 t452 _ _ t453 false _ ?side1 ?side2 ?side3 ?side4 A39.out).mono ?_
            (case side1 => repeat (first | exact (Kd.S_reads' HO_445001.out).2.2 | (with_reducible refine Kd.C_alloc ?_ _) | (with_reducible refine Kd.C_drewN ?_ _) | (with_reducible refine Kd.C_drew ?_)))
            (case side2 => exact (Kd.S_reads' HO_445001.out).2.1)
            (case side3 => repeat (first | exact (Kd.S_reads' HO455.out).2.2 | (with_reducible refine Kd.C_alloc ?_ _) | (with_reducible refine Kd.C_drewN ?_ _) | (with_reducible refine Kd.C_drew ?_)))
            (case side4 => exact (Kd.S_reads' HO455.out).2.1)
            rintro e w96 ⟨rfl, hb⟩
            refine ⟨_, rfl, ?_⟩
            have n0_ := Aside0.mk (Kd.R_below (qR HO_7.out) hb)
            have n1_ := Aside0.mk (Kd.R_below (qR HO_12.out) hb)
            have n2_ := Aside0.mk (Kd.S_below (by (with_reducible repeat (first | apply Kd.S_alloc | apply Kd.S_drewN | apply Kd.S_drew)); exact HO_445001.out) hb)
            have n3_ := Aside0.mk (Kd.S_below (by (with_reducible repeat (first | apply Kd.S_alloc | apply Kd.S_drewN | apply Kd.S_drew)); exact HO455.out) hb)
            have n4_ := Aside0.mk (blk_below (g := gb428) (o := .cells #[.int .i64 a0_0, .slice A0_1 l0_1.length c0_1] 24 (0, 0)) (qK BK428.out) hb)
            have n5_ := Aside0.mk (blk_below (g := gb444) (o := .cells #[.int .i64 t440, .slice Ao25 t441.length co25] 27 (0, 0)) (qK BK444.out) hb)
            have n6_ := Aside0.mk (below_step (qB) hb)
            clear HO_7
            clear HO_12
            clear HO_445001
            clear HO455
            clear BK428
            clear BK444
            clear HB
            have HO_7 := n0_
            have HO_12 := n1_
            have HO_445001 := n2_
            have HO455 := n3_
            have BK428 := n4_
            have BK444 := n5_
            have HB := n6_
            clear n0_ n1_ n2_ n3_ n4_ n5_ n6_
            (try clear hb)
            (try clear hb2)
            (try clear hk)
            (try clear hi)
            refine hK.out _ _ ⟨(blk_cell BK444.out 0).trans rfl, (blk_cell BK444.out 1).trans rfl, (blk_cell BK428.out 0).trans rfl, (blk_cell BK428.out 1).trans rfl⟩ (fun hHeld => ?_)
            clear hK K
            refine norm_ (a' := ?_) ?_ ?_
            rotate_left
            · show Act.put _ (some 68) _ = _
              simp only [Act.put, List.setIfInBounds_toArray, List.set_cons_zero, List.set_cons_succ, i64_w, i32_w]
              rfl
            refine pure_ (i := 4) (N := some 69) (v := ?_) (a' := ?_) #[true, true, true, true, true] rfl rfl (by kernel_rfl) (fun _ _ _ h => h) (Or.inl ⟨by rfl, ?_⟩) ?_ ?_
            rotate_left
            · intro w'
              go_simp
              with_reducible rfl
            rotate_left
            · simp only [Act.put, List.setIfInBounds_toArray, List.set_cons_zero, List.set_cons_succ, i64_w, i32_w]
              rfl
            refine done_ (by kernel_rfl) ?_
            try go_wp2
            go_ret
            exact ⟨qE, qB⟩
/-- THE PURE STATEMENT of laws_FnExactSolve. -/
def laws_FnExactSolve.Pure : Prop := ∀ (a0_0 : Int) (l0_1 : List (List Int)) (a1 : Int), (Lit.int .i64 a0_0).wf = true → ((l0_1).length ≤ maxLen ∧ ∀ y ∈ l0_1, ((y).length ≤ maxLen ∧ ∀ y_ ∈ y, (Lit.int .i64 y_).wf = true)) → (Lit.int .i64 a1).wf = true → ∃ k, laws_FnExactSolve.f k a0_0 l0_1 a1 = some true
theorem laws_FnExactSolve.walk (P : laws_FnExactSolve.Pure) (a0_0 : Int) (A0_1 : Option Addr) (c0_1 : Nat) (l0_1 : List (List Int)) (a1 : Int) (w : World) (hr0_1 : Kd.C (Kd.slice 3 (Kd.int .i64)) w A0_1 l0_1.length l0_1) (hc0_1 : l0_1.length ≤ c0_1) (w0_0 : (Lit.int .i64 a0_0).wf = true) (w0_1 : ((l0_1).length ≤ maxLen ∧ ∀ y ∈ l0_1, ((y).length ≤ maxLen ∧ ∀ y_ ∈ y, (Lit.int .i64 y_).wf = true))) (w1 : (Lit.int .i64 a1).wf = true) :
    Calls Try.prog 7 #[.agg #[.int .i64 a0_0, .slice A0_1 l0_1.length c0_1], .int .i64 a1] w fun e w' => e = .returned (.bool true) ∧ Below w.heap.size w w' := by
  obtain ⟨k, h⟩ := P a0_0 l0_1 a1 w0_0 w0_1 w1
  refine (laws_FnExactSolve.calls k a0_0 A0_1 c0_1 l0_1 a1 true w hr0_1 hc0_1 h).mono ?_
  rintro e w' ⟨rfl, hd⟩
  exact ⟨rfl, hd⟩

end Go.Proofs.Ytdmngodinbelfaa.X
