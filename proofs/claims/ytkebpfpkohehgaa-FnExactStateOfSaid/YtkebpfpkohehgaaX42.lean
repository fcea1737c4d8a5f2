/- Go functions as Lean functions, each with the proof that its call comes to just its answer. Conditions: the arguments are of their kinds. -/
import Derived.Test.YtkebpfpkohehgaaX0
import Derived.Test.YtkebpfpkohehgaaX1
import Derived.Test.YtkebpfpkohehgaaX10
import Derived.Test.YtkebpfpkohehgaaX24
import Derived.Test.YtkebpfpkohehgaaX27
import Derived.Test.YtkebpfpkohehgaaX35
import Derived.Test.YtkebpfpkohehgaaX36
import Derived.Test.YtkebpfpkohehgaaX40
import Derived.Test.YtkebpfpkohehgaaXO
namespace Go.Proofs.Ytkebpfpkohehgaa.X
open Go.RowKit Go.Proofs.YtkebpfpkohehgaaW.PrintWords Go.Proofs.YtkebpfpkohehgaaW.PrintLast Go.Proofs.YtkebpfpkohehgaaW.PrintMore
attribute [local go_sem] max2_int min2_int max_two min_two max_three min_three max_four min_four   -- for this text's walks alone
set_option linter.unusedVariables false
set_option linter.unusedSimpArgs false

/-! ### laws_FnExactStateOf: function 6 -/
mutual
def laws_FnExactStateOf.j0 : Nat → Int → List Int → Bool → List Int → Bool → Bool → Int → Int → List (S84) → List (S77) → Int → Int → List (S82) → List (S54) → Option (Bool)
 | 0, _, _, _, _, _, _, _, _, _, _, _, _, _, _ => none
 | k + 1, x1, x6, x7, x9, x10, x44, x453000, x453001, x453002, x453003, x475000, x475001, x475002, x475003 => if x44 = true then (some false) else ((laws_toProgram.f k x453000 x453001 x453002 x453003).bind fun bt480 => ((laws_eqProgram.f k x475000 x475001 x475002 x475003 bt480.1 bt480.2.1 bt480.2.2.1 bt480.2.2.2).bind fun t488 => (if t488 = true then ((laws_markProgram.f x475000 x475001 x475002 x475003 1).bind fun t489 => (if t489 < 0 then (laws_FnExactStateOf.j1 k x1 x6 x7 x9 true x453000 x453001 x453002 x453003) else ((laws_eqUint64S.f k x9 x6).bind fun t490 => (if t490 = true then (laws_FnExactStateOf.j1 k x1 x6 x7 x9 (x10 != x7) x453000 x453001 x453002 x453003) else (laws_FnExactStateOf.j1 k x1 x6 x7 x9 true x453000 x453001 x453002 x453003))))) else (some false))))
def laws_FnExactStateOf.j1 : Nat → Int → List Int → Bool → List Int → Bool → Int → Int → List (S84) → List (S77) → Option (Bool)
 | 0, _, _, _, _, _, _, _, _, _ => none
 | k + 1, x1, x6, x7, x9, x65, x453000, x453001, x453002, x453003 => if x65 = true then (some false) else ((laws_markUint64S.f k x9 1).bind fun bt491 => ((laws_heldUint64S.f k bt491.2 1).bind fun t493 => (if t493 < 0 then (some false) else (if t493 = bt491.1 then ((laws_toProgram.f k x453000 x453001 x453002 x453003).bind fun bt494 => ((impl_StateOf.f k bt494.1 bt494.2.1 bt494.2.2.1 bt494.2.2.2 x1).bind fun bt502 => ((laws_eqUint64S.f k bt502.1 x6).bind fun t506 => (if t506 = true then (laws_FnExactStateOf.j2 k bt491.2 bt491.1 (bt502.2 != x7)) else (laws_FnExactStateOf.j2 k bt491.2 bt491.1 true))))) else (some false)))))
def laws_FnExactStateOf.j2 : Nat → List Int → Int → Bool → Option (Bool)
 | 0, _, _, _ => none
 | k + 1, x9, x12, x92 => if x92 = true then (some false) else ((laws_heldUint64S.f k x9 1).bind fun t507 => (if t507 < 0 then (some false) else (if t507 = x12 then (some true) else (some false))))
end
def laws_FnExactStateOf.f (k : Nat) (a0_0 : Int) (a0_1 : Int) (l0_2 : List (S84)) (l0_3 : List (S77)) (a1 : Int) : Option (Bool) := (laws_szProgram.f k a0_0 a0_1 l0_2 l0_3 1048576).bind fun t453 => (if t453 < 0 then (some true) else ((laws_toProgram.f k a0_0 a0_1 l0_2 l0_3).bind fun bt454 => ((spec_StateOf.f k bt454.1 bt454.2.1 bt454.2.2.1 bt454.2.2.2 a1).bind fun bt462 => ((laws_toProgram.f k a0_0 a0_1 l0_2 l0_3).bind fun bt466 => ((impl_StateOf.f k bt466.1 bt466.2.1 bt466.2.2.1 bt466.2.2.2 a1).bind fun bt475 => ((laws_eqUint64S.f k bt475.1 bt462.1).bind fun t479 => (if t479 = true then (laws_FnExactStateOf.j0 k a1 bt462.1 bt462.2 bt475.1 bt475.2 (bt475.2 != bt462.2) a0_0 a0_1 l0_2 l0_3 bt466.1 bt466.2.1 bt466.2.2.1 bt466.2.2.2) else (laws_FnExactStateOf.j0 k a1 bt462.1 bt462.2 bt475.1 bt475.2 true a0_0 a0_1 l0_2 l0_3 bt466.1 bt466.2.1 bt466.2.2.1 bt466.2.2.2))))))))
theorem laws_FnExactStateOf.mono_l : ∀ k, (∀ y0 y1 y2 y3 y4 y5 y6 y7 y8 y9 y10 y11 y12 y13, LeO (laws_FnExactStateOf.j0 k y0 y1 y2 y3 y4 y5 y6 y7 y8 y9 y10 y11 y12 y13) (laws_FnExactStateOf.j0 (k + 1) y0 y1 y2 y3 y4 y5 y6 y7 y8 y9 y10 y11 y12 y13)) ∧ (∀ y0 y1 y2 y3 y4 y5 y6 y7 y8, LeO (laws_FnExactStateOf.j1 k y0 y1 y2 y3 y4 y5 y6 y7 y8) (laws_FnExactStateOf.j1 (k + 1) y0 y1 y2 y3 y4 y5 y6 y7 y8)) ∧ (∀ y0 y1 y2, LeO (laws_FnExactStateOf.j2 k y0 y1 y2) (laws_FnExactStateOf.j2 (k + 1) y0 y1 y2))
 | 0 => ⟨fun _ _ _ _ _ _ _ _ _ _ _ _ _ _ r h => by simp [laws_FnExactStateOf.j0] at h, fun _ _ _ _ _ _ _ _ _ r h => by simp [laws_FnExactStateOf.j1] at h, fun _ _ _ r h => by simp [laws_FnExactStateOf.j2] at h⟩
 | k + 1 => by
  obtain ⟨ih0, ih1, ih2⟩ := laws_FnExactStateOf.mono_l k
  refine ⟨?_, ?_, ?_⟩
  ·intro y0 y1 y2 y3 y4 y5 y6 y7 y8 y9 y10 y11 y12 y13
   unfold laws_FnExactStateOf.j0
   repeat' first
   | (with_reducible exact ih0 _ _ _ _ _ _ _ _ _ _ _ _ _ _)
   | (with_reducible exact ih1 _ _ _ _ _ _ _ _ _)
   | (with_reducible exact ih2 _ _ _)
   | (with_reducible exact impl_StateOf.mono _ _ _ _ _ _)
   | (with_reducible exact laws_eqProgram.mono _ _ _ _ _ _ _ _ _)
   | (with_reducible exact laws_eqUint64S.mono _ _ _)
   | (with_reducible exact laws_heldUint64S.mono _ _ _)
   | (with_reducible exact laws_markUint64S.mono _ _ _)
   | (with_reducible exact laws_szProgram.mono _ _ _ _ _ _)
   | (with_reducible exact laws_toProgram.mono _ _ _ _ _)
   | (with_reducible exact spec_StateOf.mono _ _ _ _ _ _)
   | (with_reducible first | exact LeO.refl _ | exact LeO.none _ | refine LeO.ite ?_ ?_ | refine LeO.bind ?_ (fun _ => ?_))
   | exact ih0 _ _ _ _ _ _ _ _ _ _ _ _ _ _
   | exact ih1 _ _ _ _ _ _ _ _ _
   | exact ih2 _ _ _
   | exact impl_StateOf.mono _ _ _ _ _ _
   | exact laws_eqProgram.mono _ _ _ _ _ _ _ _ _
   | exact laws_eqUint64S.mono _ _ _
   | exact laws_heldUint64S.mono _ _ _
   | exact laws_markUint64S.mono _ _ _
   | exact laws_szProgram.mono _ _ _ _ _ _
   | exact laws_toProgram.mono _ _ _ _ _
   | exact spec_StateOf.mono _ _ _ _ _ _
   | exact LeO.none _ | refine LeO.ite ?_ ?_ | refine LeO.bind ?_ (fun _ => ?_)
  ·intro y0 y1 y2 y3 y4 y5 y6 y7 y8
   unfold laws_FnExactStateOf.j1
   repeat' first
   | (with_reducible exact ih0 _ _ _ _ _ _ _ _ _ _ _ _ _ _)
   | (with_reducible exact ih1 _ _ _ _ _ _ _ _ _)
   | (with_reducible exact ih2 _ _ _)
   | (with_reducible exact impl_StateOf.mono _ _ _ _ _ _)
   | (with_reducible exact laws_eqProgram.mono _ _ _ _ _ _ _ _ _)
   | (with_reducible exact laws_eqUint64S.mono _ _ _)
   | (with_reducible exact laws_heldUint64S.mono _ _ _)
   | (with_reducible exact laws_markUint64S.mono _ _ _)
   | (with_reducible exact laws_szProgram.mono _ _ _ _ _ _)
   | (with_reducible exact laws_toProgram.mono _ _ _ _ _)
   | (with_reducible exact spec_StateOf.mono _ _ _ _ _ _)
   | (with_reducible first | exact LeO.refl _ | exact LeO.none _ | refine LeO.ite ?_ ?_ | refine LeO.bind ?_ (fun _ => ?_))
   | exact ih0 _ _ _ _ _ _ _ _ _ _ _ _ _ _
   | exact ih1 _ _ _ _ _ _ _ _ _
   | exact ih2 _ _ _
   | exact impl_StateOf.mono _ _ _ _ _ _
   | exact laws_eqProgram.mono _ _ _ _ _ _ _ _ _
   | exact laws_eqUint64S.mono _ _ _
   | exact laws_heldUint64S.mono _ _ _
   | exact laws_markUint64S.mono _ _ _
   | exact laws_szProgram.mono _ _ _ _ _ _
   | exact laws_toProgram.mono _ _ _ _ _
   | exact spec_StateOf.mono _ _ _ _ _ _
   | exact LeO.none _ | refine LeO.ite ?_ ?_ | refine LeO.bind ?_ (fun _ => ?_)
  ·intro y0 y1 y2
   unfold laws_FnExactStateOf.j2
   repeat' first
   | (with_reducible exact ih0 _ _ _ _ _ _ _ _ _ _ _ _ _ _)
   | (with_reducible exact ih1 _ _ _ _ _ _ _ _ _)
   | (with_reducible exact ih2 _ _ _)
   | (with_reducible exact impl_StateOf.mono _ _ _ _ _ _)
   | (with_reducible exact laws_eqProgram.mono _ _ _ _ _ _ _ _ _)
   | (with_reducible exact laws_eqUint64S.mono _ _ _)
   | (with_reducible exact laws_heldUint64S.mono _ _ _)
   | (with_reducible exact laws_markUint64S.mono _ _ _)
   | (with_reducible exact laws_szProgram.mono _ _ _ _ _ _)
   | (with_reducible exact laws_toProgram.mono _ _ _ _ _)
   | (with_reducible exact spec_StateOf.mono _ _ _ _ _ _)
   | (with_reducible first | exact LeO.refl _ | exact LeO.none _ | refine LeO.ite ?_ ?_ | refine LeO.bind ?_ (fun _ => ?_))
   | exact ih0 _ _ _ _ _ _ _ _ _ _ _ _ _ _
   | exact ih1 _ _ _ _ _ _ _ _ _
   | exact ih2 _ _ _
   | exact impl_StateOf.mono _ _ _ _ _ _
   | exact laws_eqProgram.mono _ _ _ _ _ _ _ _ _
   | exact laws_eqUint64S.mono _ _ _
   | exact laws_heldUint64S.mono _ _ _
   | exact laws_markUint64S.mono _ _ _
   | exact laws_szProgram.mono _ _ _ _ _ _
   | exact laws_toProgram.mono _ _ _ _ _
   | exact spec_StateOf.mono _ _ _ _ _ _
   | exact LeO.none _ | refine LeO.ite ?_ ?_ | refine LeO.bind ?_ (fun _ => ?_)
theorem laws_FnExactStateOf.mono : ∀ a0 a1 a2 a3 a4 k, LeO (laws_FnExactStateOf.f k a0 a1 a2 a3 a4) (laws_FnExactStateOf.f (k + 1) a0 a1 a2 a3 a4) := by
 intro a0 a1 a2 a3 a4 k
 obtain ⟨ih0, ih1, ih2⟩ := laws_FnExactStateOf.mono_l k
 unfold laws_FnExactStateOf.f
 repeat' first
   | (with_reducible exact ih0 _ _ _ _ _ _ _ _ _ _ _ _ _ _)
   | (with_reducible exact ih1 _ _ _ _ _ _ _ _ _)
   | (with_reducible exact ih2 _ _ _)
   | (with_reducible exact impl_StateOf.mono _ _ _ _ _ _)
   | (with_reducible exact laws_eqProgram.mono _ _ _ _ _ _ _ _ _)
   | (with_reducible exact laws_eqUint64S.mono _ _ _)
   | (with_reducible exact laws_heldUint64S.mono _ _ _)
   | (with_reducible exact laws_markUint64S.mono _ _ _)
   | (with_reducible exact laws_szProgram.mono _ _ _ _ _ _)
   | (with_reducible exact laws_toProgram.mono _ _ _ _ _)
   | (with_reducible exact spec_StateOf.mono _ _ _ _ _ _)
   | (with_reducible first | exact LeO.refl _ | exact LeO.none _ | refine LeO.ite ?_ ?_ | refine LeO.bind ?_ (fun _ => ?_))
   | exact ih0 _ _ _ _ _ _ _ _ _ _ _ _ _ _
   | exact ih1 _ _ _ _ _ _ _ _ _
   | exact ih2 _ _ _
   | exact impl_StateOf.mono _ _ _ _ _ _
   | exact laws_eqProgram.mono _ _ _ _ _ _ _ _ _
   | exact laws_eqUint64S.mono _ _ _
   | exact laws_heldUint64S.mono _ _ _
   | exact laws_markUint64S.mono _ _ _
   | exact laws_szProgram.mono _ _ _ _ _ _
   | exact laws_toProgram.mono _ _ _ _ _
   | exact spec_StateOf.mono _ _ _ _ _ _
   | exact LeO.none _ | refine LeO.ite ?_ ?_ | refine LeO.bind ?_ (fun _ => ?_)
set_option maxHeartbeats 8000000 in
set_option maxRecDepth 100000 in
theorem laws_FnExactStateOf.calls (k : Nat) (a0_0 : Int) (a0_1 : Int) (A0_2 : Option Addr) (c0_2 : Nat) (l0_2 : List (S84)) (A0_3 : Option Addr) (c0_3 : Nat) (l0_3 : List (S77)) (a1 : Int) (r : Bool) (w : World) (hr0_2 : Kd.C k84 w A0_2 l0_2.length l0_2) (hc0_2 : l0_2.length ≤ c0_2) (hr0_3 : Kd.C k77 w A0_3 l0_3.length l0_3) (hc0_3 : l0_3.length ≤ c0_3) (h : laws_FnExactStateOf.f k a0_0 a0_1 l0_2 l0_3 a1 = some true) :
  Calls Try.prog 6 #[.agg #[.int .i64 a0_0, .int .i64 a0_1, .slice A0_2 l0_2.length c0_2, .slice A0_3 l0_3.length c0_3], .int .i64 a1] w fun e w' => e = .returned (.bool true) ∧ Below w.heap.size w w' := by
 have hu25 := Try.underlying25
 have hu31 := Try.underlying31
 have HR0_2 := Aside0.mk hr0_2
 have HC0_2 := Aside0.mk hc0_2
 clear hr0_2 hc0_2
 have HR0_3 := Aside0.mk hr0_3
 have HC0_3 := Aside0.mk hc0_3
 clear hr0_3 hc0_3
 have HB := Aside0.mk (Below.refl w.heap.size w)
 have H : ((laws_szProgram.f k a0_0 a0_1 l0_2 l0_3 1048576).bind fun t453 => (if t453 < 0 then (some true) else ((laws_toProgram.f k a0_0 a0_1 l0_2 l0_3).bind fun bt454 => ((spec_StateOf.f k bt454.1 bt454.2.1 bt454.2.2.1 bt454.2.2.2 a1).bind fun bt462 => ((laws_toProgram.f k a0_0 a0_1 l0_2 l0_3).bind fun bt466 => ((impl_StateOf.f k bt466.1 bt466.2.1 bt466.2.2.1 bt466.2.2.2 a1).bind fun bt475 => ((laws_eqUint64S.f k bt475.1 bt462.1).bind fun t479 => (if t479 = true then (laws_FnExactStateOf.j0 k a1 bt462.1 bt462.2 bt475.1 bt475.2 (bt475.2 != bt462.2) a0_0 a0_1 l0_2 l0_3 bt466.1 bt466.2.1 bt466.2.2.1 bt466.2.2.2) else (laws_FnExactStateOf.j0 k a1 bt462.1 bt462.2 bt475.1 bt475.2 true a0_0 a0_1 l0_2 l0_3 bt466.1 bt466.2.1 bt466.2.2.1 bt466.2.2.2))))))))) = some true := h
 clear h
 replace H := Option.bind_eq_some_iff.mp H
 obtain ⟨t453, A30, H⟩ := H
 replace H : (if t453 < 0 then (some true) else ((laws_toProgram.f k a0_0 a0_1 l0_2 l0_3).bind fun bt454 => ((spec_StateOf.f k bt454.1 bt454.2.1 bt454.2.2.1 bt454.2.2.2 a1).bind fun bt462 => ((laws_toProgram.f k a0_0 a0_1 l0_2 l0_3).bind fun bt466 => ((impl_StateOf.f k bt466.1 bt466.2.1 bt466.2.2.1 bt466.2.2.2 a1).bind fun bt475 => ((laws_eqUint64S.f k bt475.1 bt462.1).bind fun t479 => (if t479 = true then (laws_FnExactStateOf.j0 k a1 bt462.1 bt462.2 bt475.1 bt475.2 (bt475.2 != bt462.2) a0_0 a0_1 l0_2 l0_3 bt466.1 bt466.2.1 bt466.2.2.1 bt466.2.2.2) else (laws_FnExactStateOf.j0 k a1 bt462.1 bt462.2 bt475.1 bt475.2 true a0_0 a0_1 l0_2 l0_3 bt466.1 bt466.2.1 bt466.2.2.1 bt466.2.2.2)))))))) = some true := H
 have A3 := Aside0.mk A30
 clear A30
 by_cases c4 : t453 < 0
 ·rw [if_pos c4] at H
  have c4b0 : decide (t453 < 0) = true := decide_eq_true c4
  clear c4
  go_enter Try.func6, Try.ntmps6
  go_wp2_with (first | ((with_reducible refine gate_dst (N := 2) rfl ?_); refine box_event ?hg (N := 2) ?hd (cs := #[.int .i64 a0_0, .int .i64 a0_1, .slice A0_2 l0_2.length c0_2, .slice A0_3 l0_3.length c0_3]) (t := 25) ?hr ?_; (case hd => rfl); (case hg => rfl); (case hr => first | (go_simp; done) | (go_simp; rfl)); intro gb452 hg w5 hbox hb; have n0_ := Aside0.mk (below_step (qB) hb); have n1_ := Aside0.mk (hbox); have n2_ := Aside0.mk ((by rw [hg]; exact (below_size (qB)) : w.heap.size ≤ gb452)); have n3_ := Aside0.mk ((by rw [hg]; exact (below_size (qB)) : w.heap.size ≤ gb452)); clear HB; have HB := n0_; have BK452 := n1_; have GW452 := n2_; have GE452 := n3_; clear n0_ n1_ n2_ n3_; clear hb hbox hg; have hcz6_0 : w5.cell? ⟨gb452, 0, none⟩ = some (.int .i64 a0_0) := (blk_cell BK452.out 0).trans rfl; have hcz6_1 : w5.cell? ⟨gb452, 1, none⟩ = some (.int .i64 a0_1) := (blk_cell BK452.out 1).trans rfl; have hcz6_2 : w5.cell? ⟨gb452, 2, none⟩ = some (.slice A0_2 l0_2.length c0_2) := (blk_cell BK452.out 2).trans rfl; have hcz6_3 : w5.cell? ⟨gb452, 3, none⟩ = some (.slice A0_3 l0_3.length c0_3) := (blk_cell BK452.out 3).trans rfl; have hfz6_0 := blk_frozen BK452.out 0; have hfz6_1 := blk_frozen BK452.out 1; have hfz6_2 := blk_frozen BK452.out 2; have hfz6_3 := blk_frozen BK452.out 3) | ((with_reducible refine gate_callee (f := 7) rfl ?_); refine goesL_ (some 18) rfl rfl Try.func7 (by kernel_rfl) rfl #[.agg #[.int .i64 a0_0, .int .i64 a0_1, .slice A0_2 l0_2.length c0_2, .slice A0_3 l0_3.length c0_3], .int .i64 1048576] rfl qG ?_; (with_reducible refine (laws_szProgram.calls k a0_0 a0_1 _ _ l0_2 _ _ l0_3 1048576 t453 _ ?side1 ?side2 ?side3 ?side4 A3.out).mono ?_); (case side1 => exact qC (Kd.C_below HR0_2.out HB.out)); (case side2 => exact HC0_2.out); (case side3 => exact qC (Kd.C_below HR0_3.out HB.out)); (case side4 => exact HC0_3.out); rintro e w7 ⟨rfl, hb⟩; refine ⟨_, rfl, ?_⟩; have n0_ := Aside0.mk (blk_below (g := gb452) (o := .cells #[.int .i64 a0_0, .int .i64 a0_1, .slice A0_2 l0_2.length c0_2, .slice A0_3 l0_3.length c0_3] 25 (0, 0)) (qK BK452.out) hb); have n1_ := Aside0.mk (below_step (qB) hb); clear BK452; clear HB; have BK452 := n0_; have HB := n1_; clear n0_ n1_; (try clear hb); (try clear hb2); (try clear hk); (try clear hi)))
  go_ret
  exact ⟨qE, qB⟩
 ·rw [if_neg c4] at H
  have c4b0 : decide (t453 < 0) = false := decide_eq_false c4
  clear c4
  replace H := Option.bind_eq_some_iff.mp H
  obtain ⟨⟨t454, t455, t456, t459⟩, A80, H⟩ := H
  replace H : ((spec_StateOf.f k t454 t455 t456 t459 a1).bind fun bt462 => ((laws_toProgram.f k a0_0 a0_1 l0_2 l0_3).bind fun bt466 => ((impl_StateOf.f k bt466.1 bt466.2.1 bt466.2.2.1 bt466.2.2.2 a1).bind fun bt475 => ((laws_eqUint64S.f k bt475.1 bt462.1).bind fun t479 => (if t479 = true then (laws_FnExactStateOf.j0 k a1 bt462.1 bt462.2 bt475.1 bt475.2 (bt475.2 != bt462.2) a0_0 a0_1 l0_2 l0_3 bt466.1 bt466.2.1 bt466.2.2.1 bt466.2.2.2) else (laws_FnExactStateOf.j0 k a1 bt462.1 bt462.2 bt475.1 bt475.2 true a0_0 a0_1 l0_2 l0_3 bt466.1 bt466.2.1 bt466.2.2.1 bt466.2.2.2)))))) = some true := H
  have A8 := Aside0.mk A80
  clear A80
  replace H := Option.bind_eq_some_iff.mp H
  obtain ⟨⟨t462, t465⟩, A90, H⟩ := H
  replace H : ((laws_toProgram.f k a0_0 a0_1 l0_2 l0_3).bind fun bt466 => ((impl_StateOf.f k bt466.1 bt466.2.1 bt466.2.2.1 bt466.2.2.2 a1).bind fun bt475 => ((laws_eqUint64S.f k bt475.1 t462).bind fun t479 => (if t479 = true then (laws_FnExactStateOf.j0 k a1 t462 t465 bt475.1 bt475.2 (bt475.2 != t465) a0_0 a0_1 l0_2 l0_3 bt466.1 bt466.2.1 bt466.2.2.1 bt466.2.2.2) else (laws_FnExactStateOf.j0 k a1 t462 t465 bt475.1 bt475.2 true a0_0 a0_1 l0_2 l0_3 bt466.1 bt466.2.1 bt466.2.2.1 bt466.2.2.2))))) = some true := H
  have A9 := Aside0.mk A90
  clear A90
  replace H := Option.bind_eq_some_iff.mp H
  obtain ⟨⟨t466, t467, t468, t471⟩, A100, H⟩ := H
  replace H : ((impl_StateOf.f k t466 t467 t468 t471 a1).bind fun bt475 => ((laws_eqUint64S.f k bt475.1 t462).bind fun t479 => (if t479 = true then (laws_FnExactStateOf.j0 k a1 t462 t465 bt475.1 bt475.2 (bt475.2 != t465) a0_0 a0_1 l0_2 l0_3 t466 t467 t468 t471) else (laws_FnExactStateOf.j0 k a1 t462 t465 bt475.1 bt475.2 true a0_0 a0_1 l0_2 l0_3 t466 t467 t468 t471)))) = some true := H
  have A10 := Aside0.mk A100
  clear A100
  replace H := Option.bind_eq_some_iff.mp H
  obtain ⟨⟨t475, t478⟩, A110, H⟩ := H
  replace H : ((laws_eqUint64S.f k t475 t462).bind fun t479 => (if t479 = true then (laws_FnExactStateOf.j0 k a1 t462 t465 t475 t478 (t478 != t465) a0_0 a0_1 l0_2 l0_3 t466 t467 t468 t471) else (laws_FnExactStateOf.j0 k a1 t462 t465 t475 t478 true a0_0 a0_1 l0_2 l0_3 t466 t467 t468 t471))) = some true := H
  have A11 := Aside0.mk A110
  clear A110
  have HC12 := Aside0.mk H
  clear H
  go_enter Try.func6, Try.ntmps6
  go_upto_region 8 with (first | ((with_reducible refine gate_dst (N := 2) rfl ?_); refine box_event ?hg (N := 2) ?hd (cs := #[.int .i64 a0_0, .int .i64 a0_1, .slice A0_2 l0_2.length c0_2, .slice A0_3 l0_3.length c0_3]) (t := 25) ?hr ?_; (case hd => rfl); (case hg => rfl); (case hr => first | (go_simp; done) | (go_simp; rfl)); intro gb452 hg w13 hbox hb; have n0_ := Aside0.mk (below_step (qB) hb); have n1_ := Aside0.mk (hbox); have n2_ := Aside0.mk ((by rw [hg]; exact (below_size (qB)) : w.heap.size ≤ gb452)); have n3_ := Aside0.mk ((by rw [hg]; exact (below_size (qB)) : w.heap.size ≤ gb452)); clear HB; have HB := n0_; have BK452 := n1_; have GW452 := n2_; have GE452 := n3_; clear n0_ n1_ n2_ n3_; clear hb hbox hg; have hcz14_0 : w13.cell? ⟨gb452, 0, none⟩ = some (.int .i64 a0_0) := (blk_cell BK452.out 0).trans rfl; have hcz14_1 : w13.cell? ⟨gb452, 1, none⟩ = some (.int .i64 a0_1) := (blk_cell BK452.out 1).trans rfl; have hcz14_2 : w13.cell? ⟨gb452, 2, none⟩ = some (.slice A0_2 l0_2.length c0_2) := (blk_cell BK452.out 2).trans rfl; have hcz14_3 : w13.cell? ⟨gb452, 3, none⟩ = some (.slice A0_3 l0_3.length c0_3) := (blk_cell BK452.out 3).trans rfl; have hfz14_0 := blk_frozen BK452.out 0; have hfz14_1 := blk_frozen BK452.out 1; have hfz14_2 := blk_frozen BK452.out 2; have hfz14_3 := blk_frozen BK452.out 3) | ((with_reducible refine gate_callee (f := 7) rfl ?_); refine goesL_ (some 18) rfl rfl Try.func7 (by kernel_rfl) rfl #[.agg #[.int .i64 a0_0, .int .i64 a0_1, .slice A0_2 l0_2.length c0_2, .slice A0_3 l0_3.length c0_3], .int .i64 1048576] rfl qG ?_; (with_reducible refine (laws_szProgram.calls k a0_0 a0_1 _ _ l0_2 _ _ l0_3 1048576 t453 _ ?side1 ?side2 ?side3 ?side4 A3.out).mono ?_); (case side1 => exact qC (Kd.C_below HR0_2.out HB.out)); (case side2 => exact HC0_2.out); (case side3 => exact qC (Kd.C_below HR0_3.out HB.out)); (case side4 => exact HC0_3.out); rintro e w15 ⟨rfl, hb⟩; refine ⟨_, rfl, ?_⟩; have n0_ := Aside0.mk (blk_below (g := gb452) (o := .cells #[.int .i64 a0_0, .int .i64 a0_1, .slice A0_2 l0_2.length c0_2, .slice A0_3 l0_3.length c0_3] 25 (0, 0)) (qK BK452.out) hb); have n1_ := Aside0.mk (below_step (qB) hb); clear BK452; clear HB; have BK452 := n0_; have HB := n1_; clear n0_ n1_; (try clear hb); (try clear hb2); (try clear hk); (try clear hi); have hcz16_0 : w15.cell? ⟨gb452, 0, none⟩ = some (.int .i64 a0_0) := (blk_cell BK452.out 0).trans rfl; have hcz16_1 : w15.cell? ⟨gb452, 1, none⟩ = some (.int .i64 a0_1) := (blk_cell BK452.out 1).trans rfl; have hcz16_2 : w15.cell? ⟨gb452, 2, none⟩ = some (.slice A0_2 l0_2.length c0_2) := (blk_cell BK452.out 2).trans rfl; have hcz16_3 : w15.cell? ⟨gb452, 3, none⟩ = some (.slice A0_3 l0_3.length c0_3) := (blk_cell BK452.out 3).trans rfl; have hfz16_0 := blk_frozen BK452.out 0; have hfz16_1 := blk_frozen BK452.out 1; have hfz16_2 := blk_frozen BK452.out 2; have hfz16_3 := blk_frozen BK452.out 3) | ((with_reducible refine gate_callee (f := 9) rfl ?_); refine goesL_ (some 23) rfl rfl Try.func9 (by kernel_rfl) rfl #[.agg #[.int .i64 a0_0, .int .i64 a0_1, .slice A0_2 l0_2.length c0_2, .slice A0_3 l0_3.length c0_3]] rfl qG ?_; (with_reducible refine (laws_toProgram.calls k a0_0 a0_1 _ _ l0_2 _ _ l0_3 t454 t455 t456 t459 _ ?side1 ?side2 ?side3 ?side4 A8.out).mono ?_); (case side1 => exact qC (Kd.C_below HR0_2.out HB.out)); (case side2 => exact HC0_2.out); (case side3 => exact qC (Kd.C_below HR0_3.out HB.out)); (case side4 => exact HC0_3.out); rintro e w17 ⟨v457, v460, rfl, ho0, ho1, hb⟩; refine ⟨_, rfl, ?_⟩; have n0_ := Aside0.mk (Kd.R_lower ho0 (below_size (qB))); have n1_ := Aside0.mk (Kd.R_lower ho1 (below_size (qB))); have n2_ := Aside0.mk (blk_below (g := gb452) (o := .cells #[.int .i64 a0_0, .int .i64 a0_1, .slice A0_2 l0_2.length c0_2, .slice A0_3 l0_3.length c0_3] 25 (0, 0)) (qK BK452.out) hb); have n3_ := Aside0.mk (below_step (qB) hb); clear BK452; clear HB; have HO458 := n0_; have HO461 := n1_; have BK452 := n2_; have HB := n3_; clear n0_ n1_ n2_ n3_; (try clear hb); (try clear hb2); (try clear hk); (try clear hi); (try clear ho0); (try clear ho1); obtain ⟨Ao18, co18, eo18⟩ := Kd.R_slice HO458.out; subst eo18; obtain ⟨Ao19, co19, eo19⟩ := Kd.R_slice HO461.out; subst eo19) | ((with_reducible refine gate_callee (f := 18) rfl ?_); refine goesL_ (some 25) rfl rfl Try.func18 (by kernel_rfl) rfl #[.agg #[.int .i64 t454, .int .i64 t455, .slice Ao18 t456.length co18, .slice Ao19 t459.length co19], .int .i64 a1] rfl qG ?_; (with_reducible refine (spec_StateOf.calls k t454 t455 _ _ t456 _ _ t459 a1 t462 t465 _ ?side1 ?side2 ?side3 ?side4 A9.out).mono ?_); (case side1 => repeat (first | exact (Kd.R_reads' HO458.out).2.2 | (with_reducible refine Kd.C_alloc ?_ _) | (with_reducible refine Kd.C_drewN ?_ _) | (with_reducible refine Kd.C_drew ?_))); (case side2 => exact (Kd.R_reads' HO458.out).2.1); (case side3 => repeat (first | exact (Kd.R_reads' HO461.out).2.2 | (with_reducible refine Kd.C_alloc ?_ _) | (with_reducible refine Kd.C_drewN ?_ _) | (with_reducible refine Kd.C_drew ?_))); (case side4 => exact (Kd.R_reads' HO461.out).2.1); rintro e w20 ⟨v463, rfl, ho0, hb⟩; refine ⟨_, rfl, ?_⟩; have n0_ := Aside0.mk (Kd.R_below (qR HO458.out) hb); have n1_ := Aside0.mk (Kd.R_below (qR HO461.out) hb); have n2_ := Aside0.mk (Kd.R_lower ho0 (below_size (qB))); have n3_ := Aside0.mk (blk_below (g := gb452) (o := .cells #[.int .i64 a0_0, .int .i64 a0_1, .slice A0_2 l0_2.length c0_2, .slice A0_3 l0_3.length c0_3] 25 (0, 0)) (qK BK452.out) hb); have n4_ := Aside0.mk (below_step (qB) hb); clear HO458; clear HO461; clear BK452; clear HB; have HO458 := n0_; have HO461 := n1_; have HO464 := n2_; have BK452 := n3_; have HB := n4_; clear n0_ n1_ n2_ n3_ n4_; (try clear hb); (try clear hb2); (try clear hk); (try clear hi); (try clear ho0); have hcz21_0 : w20.cell? ⟨gb452, 0, none⟩ = some (.int .i64 a0_0) := (blk_cell BK452.out 0).trans rfl; have hcz21_1 : w20.cell? ⟨gb452, 1, none⟩ = some (.int .i64 a0_1) := (blk_cell BK452.out 1).trans rfl; have hcz21_2 : w20.cell? ⟨gb452, 2, none⟩ = some (.slice A0_2 l0_2.length c0_2) := (blk_cell BK452.out 2).trans rfl; have hcz21_3 : w20.cell? ⟨gb452, 3, none⟩ = some (.slice A0_3 l0_3.length c0_3) := (blk_cell BK452.out 3).trans rfl; have hfz21_0 := blk_frozen BK452.out 0; have hfz21_1 := blk_frozen BK452.out 1; have hfz21_2 := blk_frozen BK452.out 2; have hfz21_3 := blk_frozen BK452.out 3) | ((with_reducible refine gate_callee (f := 9) rfl ?_); refine goesL_ (some 29) rfl rfl Try.func9 (by kernel_rfl) rfl #[.agg #[.int .i64 a0_0, .int .i64 a0_1, .slice A0_2 l0_2.length c0_2, .slice A0_3 l0_3.length c0_3]] rfl qG ?_; (with_reducible refine (laws_toProgram.calls k a0_0 a0_1 _ _ l0_2 _ _ l0_3 t466 t467 t468 t471 _ ?side1 ?side2 ?side3 ?side4 A10.out).mono ?_); (case side1 => exact qC (Kd.C_below HR0_2.out HB.out)); (case side2 => exact HC0_2.out); (case side3 => exact qC (Kd.C_below HR0_3.out HB.out)); (case side4 => exact HC0_3.out); rintro e w22 ⟨v469, v472, rfl, ho0, ho1, hb⟩; refine ⟨_, rfl, ?_⟩; have n0_ := Aside0.mk (Kd.R_elder' (qR HO458.out) (Kd.R_base ho0) hb); have n1_ := Aside0.mk (Kd.R_mono (Kd.R_told (Kd.R_told (Kd.R_old (qR HO461.out) hb) (Kd.R_base ho0)) (Kd.R_base ho1)) (fun _ h_ => h_.1)); have n2_ := Aside0.mk (Kd.R_below (qR HO464.out) hb); have n3_ := Aside0.mk (Kd.R_lower (Kd.R_new' ho0 (Kd.R_lt (qR HO458.out))) (below_size (qB))); have n4_ := Aside0.mk (Kd.R_lower (Kd.R_new' (Kd.R_new' ho1 (Kd.R_lt (qR HO458.out))) (Kd.R_lt (qR HO461.out))) (below_size (qB))); have n5_ := Aside0.mk (blk_below (g := gb452) (o := .cells #[.int .i64 a0_0, .int .i64 a0_1, .slice A0_2 l0_2.length c0_2, .slice A0_3 l0_3.length c0_3] 25 (0, 0)) (qK BK452.out) hb); have n6_ := Aside0.mk (below_step (qB) hb); clear HO458; clear HO461; clear HO464; clear BK452; clear HB; have HO458 := n0_; have HO461 := n1_; have HO464 := n2_; have HO470 := n3_; have HO473 := n4_; have BK452 := n5_; have HB := n6_; clear n0_ n1_ n2_ n3_ n4_ n5_ n6_; (try clear hb); (try clear hb2); (try clear hk); (try clear hi); (try clear ho0); (try clear ho1)) | ((with_reducible refine gate_dst (N := 8) rfl ?_); refine box_event ?hg (N := 8) ?hd (cs := #[.int .i64 0, .int .i64 0, .slice none 0 0, .slice none 0 0]) (t := 31) ?hr ?_; (case hd => rfl); (case hg => rfl); (case hr => first | (go_simp; done) | (go_simp; rfl)); intro gb474 hg w23 hbox hb; have n0_ := Aside0.mk (Kd.R_below (qR HO458.out) hb); have n1_ := Aside0.mk (Kd.R_below (qR HO461.out) hb); have n2_ := Aside0.mk (Kd.R_below (qR HO464.out) hb); have n3_ := Aside0.mk (Kd.R_below (qR HO470.out) hb); have n4_ := Aside0.mk (Kd.R_below (qR HO473.out) hb); have n5_ := Aside0.mk (blk_below (g := gb452) (o := .cells #[.int .i64 a0_0, .int .i64 a0_1, .slice A0_2 l0_2.length c0_2, .slice A0_3 l0_3.length c0_3] 25 (0, 0)) (qK BK452.out) hb); have n6_ := Aside0.mk (below_step (qB) hb); have n7_ := Aside0.mk (hbox); have n8_ := Aside0.mk ((by rw [hg]; exact (below_size (qB)) : w.heap.size ≤ gb474)); have n9_ := Aside0.mk ((by rw [hg]; exact (below_size (qB)) : w.heap.size ≤ gb474)); have n10_ := Aside0.mk ((by rw [hg]; exact Nat.ne_of_lt (blk_lt (g := gb452) (o := .cells #[.int .i64 a0_0, .int .i64 a0_1, .slice A0_2 l0_2.length c0_2, .slice A0_3 l0_3.length c0_3] 25 (0, 0)) (qK BK452.out)) : gb452 ≠ gb474)); have n11_ := Aside0.mk ((by rw [hg]; exact Nat.ne_of_gt (blk_lt (g := gb452) (o := .cells #[.int .i64 a0_0, .int .i64 a0_1, .slice A0_2 l0_2.length c0_2, .slice A0_3 l0_3.length c0_3] 25 (0, 0)) (qK BK452.out)) : gb474 ≠ gb452)); clear HO458; clear HO461; clear HO464; clear HO470; clear HO473; clear BK452; clear HB; have HO458 := n0_; have HO461 := n1_; have HO464 := n2_; have HO470 := n3_; have HO473 := n4_; have BK452 := n5_; have HB := n6_; have BK474 := n7_; have GW474 := n8_; have GE474 := n9_; have NB452_474 := n10_; have NB474_452 := n11_; clear n0_ n1_ n2_ n3_ n4_ n5_ n6_ n7_ n8_ n9_ n10_ n11_; clear hb hbox hg; have hnb24 := NB474_452.out; have hnc24 := NB452_474.out; have hcz25_0 : w23.cell? ⟨gb474, 0, none⟩ = some (.int .i64 0) := (blk_cell BK474.out 0).trans rfl; have hcz25_1 : w23.cell? ⟨gb474, 1, none⟩ = some (.int .i64 0) := (blk_cell BK474.out 1).trans rfl; have hcz25_2 : w23.cell? ⟨gb474, 2, none⟩ = some (.slice none 0 0) := (blk_cell BK474.out 2).trans rfl; have hcz25_3 : w23.cell? ⟨gb474, 3, none⟩ = some (.slice none 0 0) := (blk_cell BK474.out 3).trans rfl; have hfz25_0 := blk_frozen BK474.out 0; have hfz25_1 := blk_frozen BK474.out 1; have hfz25_2 := blk_frozen BK474.out 2; have hfz25_3 := blk_frozen BK474.out 3; obtain ⟨Ao26, co26, eo26⟩ := Kd.R_slice HO470.out; subst eo26; obtain ⟨Ao27, co27, eo27⟩ := Kd.R_slice HO473.out; subst eo27) | ((with_reducible refine gate_callee (f := 19) rfl ?_); refine goesL_ (some 33) rfl rfl Try.func19 (by kernel_rfl) rfl #[.agg #[.int .i64 t466, .int .i64 t467, .slice Ao26 t468.length co26, .slice Ao27 t471.length co27], .int .i64 a1] rfl qG ?_; (with_reducible refine (impl_StateOf.calls k t466 t467 _ _ t468 _ _ t471 a1 t475 t478 _ ?side1 ?side2 ?side3 ?side4 A11.out).mono ?_); (case side1 => refine (Kd.R_reads' (e := 82) (base := w.heap.size) (ok := fun k_ => (True ∧ some k_ ≠ (.slice Ao18 t456.length co18 : Value).ownBlock)) (n := t468.length) (c := co26) ?_).2.2; exact (by (with_reducible repeat (first | apply Kd.R_alloc | apply Kd.R_drewN | apply Kd.R_drew)); exact (Kd.R_mono (Kd.R_far (p := ⟨gb474, 3, none⟩) (Kd.R_far (p := ⟨gb474, 2, none⟩) (Kd.R_far (p := ⟨gb474, 1, none⟩) (Kd.R_far (p := ⟨gb474, 0, none⟩) (Kd.R_types HO470.out BK474.out (by decide)) (fun _ hk => hk.2) (.int .i64 t466)) (fun _ hk => hk.2) (.int .i64 t467)) (fun _ hk => hk.2) (.slice Ao26 t468.length co26)) (fun _ hk => hk.2) (.slice Ao27 t471.length co27)) (fun _ h_ => h_.1)))); (case side2 => exact (Kd.R_reads' HO470.out).2.1); (case side3 => refine (Kd.R_reads' (e := 54) (base := w.heap.size) (ok := fun k_ => ((some k_ ≠ (.slice Ao26 t468.length co26 : Value).ownBlock ∧ some k_ ≠ (.slice Ao18 t456.length co18 : Value).ownBlock) ∧ some k_ ≠ (.slice Ao19 t459.length co19 : Value).ownBlock)) (n := t471.length) (c := co27) ?_).2.2; exact (by (with_reducible repeat (first | apply Kd.R_alloc | apply Kd.R_drewN | apply Kd.R_drew)); exact (Kd.R_mono (Kd.R_far (p := ⟨gb474, 3, none⟩) (Kd.R_far (p := ⟨gb474, 2, none⟩) (Kd.R_far (p := ⟨gb474, 1, none⟩) (Kd.R_far (p := ⟨gb474, 0, none⟩) (Kd.R_types HO473.out BK474.out (by decide)) (fun _ hk => hk.2) (.int .i64 t466)) (fun _ hk => hk.2) (.int .i64 t467)) (fun _ hk => hk.2) (.slice Ao26 t468.length co26)) (fun _ hk => hk.2) (.slice Ao27 t471.length co27)) (fun _ h_ => h_.1)))); (case side4 => exact (Kd.R_reads' HO473.out).2.1); rintro e w28 ⟨v476, rfl, ho0, hb⟩; refine ⟨_, rfl, ?_⟩; have n0_ := Aside0.mk (Kd.R_below (by (with_reducible repeat (first | apply Kd.R_alloc | apply Kd.R_drewN | apply Kd.R_drew)); exact (Kd.R_mono (Kd.R_far (p := ⟨gb474, 3, none⟩) (Kd.R_far (p := ⟨gb474, 2, none⟩) (Kd.R_far (p := ⟨gb474, 1, none⟩) (Kd.R_far (p := ⟨gb474, 0, none⟩) (Kd.R_types HO458.out BK474.out (by decide)) (fun _ hk => hk.2) (.int .i64 t466)) (fun _ hk => hk.2) (.int .i64 t467)) (fun _ hk => hk.2) (.slice Ao26 t468.length co26)) (fun _ hk => hk.2) (.slice Ao27 t471.length co27)) (fun _ h_ => h_.1))) hb); have n1_ := Aside0.mk (Kd.R_below (by (with_reducible repeat (first | apply Kd.R_alloc | apply Kd.R_drewN | apply Kd.R_drew)); exact (Kd.R_mono (Kd.R_far (p := ⟨gb474, 3, none⟩) (Kd.R_far (p := ⟨gb474, 2, none⟩) (Kd.R_far (p := ⟨gb474, 1, none⟩) (Kd.R_far (p := ⟨gb474, 0, none⟩) (Kd.R_types HO461.out BK474.out (by decide)) (fun _ hk => hk.2) (.int .i64 t466)) (fun _ hk => hk.2) (.int .i64 t467)) (fun _ hk => hk.2) (.slice Ao26 t468.length co26)) (fun _ hk => hk.2) (.slice Ao27 t471.length co27)) (fun _ h_ => h_.1))) hb); have n2_ := Aside0.mk (Kd.R_elder' (by (with_reducible repeat (first | apply Kd.R_alloc | apply Kd.R_drewN | apply Kd.R_drew)); exact (Kd.R_mono (Kd.R_far (p := ⟨gb474, 3, none⟩) (Kd.R_far (p := ⟨gb474, 2, none⟩) (Kd.R_far (p := ⟨gb474, 1, none⟩) (Kd.R_far (p := ⟨gb474, 0, none⟩) (Kd.R_types HO464.out BK474.out (by decide)) (fun _ hk => hk.2) (.int .i64 t466)) (fun _ hk => hk.2) (.int .i64 t467)) (fun _ hk => hk.2) (.slice Ao26 t468.length co26)) (fun _ hk => hk.2) (.slice Ao27 t471.length co27)) (fun _ h_ => h_.1))) (Kd.R_base ho0) hb); have n3_ := Aside0.mk (Kd.R_below (by (with_reducible repeat (first | apply Kd.R_alloc | apply Kd.R_drewN | apply Kd.R_drew)); exact (Kd.R_mono (Kd.R_far (p := ⟨gb474, 3, none⟩) (Kd.R_far (p := ⟨gb474, 2, none⟩) (Kd.R_far (p := ⟨gb474, 1, none⟩) (Kd.R_far (p := ⟨gb474, 0, none⟩) (Kd.R_types HO470.out BK474.out (by decide)) (fun _ hk => hk.2) (.int .i64 t466)) (fun _ hk => hk.2) (.int .i64 t467)) (fun _ hk => hk.2) (.slice Ao26 t468.length co26)) (fun _ hk => hk.2) (.slice Ao27 t471.length co27)) (fun _ h_ => h_.1))) hb); have n4_ := Aside0.mk (Kd.R_below (by (with_reducible repeat (first | apply Kd.R_alloc | apply Kd.R_drewN | apply Kd.R_drew)); exact (Kd.R_mono (Kd.R_far (p := ⟨gb474, 3, none⟩) (Kd.R_far (p := ⟨gb474, 2, none⟩) (Kd.R_far (p := ⟨gb474, 1, none⟩) (Kd.R_far (p := ⟨gb474, 0, none⟩) (Kd.R_types HO473.out BK474.out (by decide)) (fun _ hk => hk.2) (.int .i64 t466)) (fun _ hk => hk.2) (.int .i64 t467)) (fun _ hk => hk.2) (.slice Ao26 t468.length co26)) (fun _ hk => hk.2) (.slice Ao27 t471.length co27)) (fun _ h_ => h_.1))) hb); have n5_ := Aside0.mk (Kd.R_lower (Kd.R_new' ho0 (Kd.R_lt (by (with_reducible repeat (first | apply Kd.R_alloc | apply Kd.R_drewN | apply Kd.R_drew)); exact (Kd.R_mono (Kd.R_far (p := ⟨gb474, 3, none⟩) (Kd.R_far (p := ⟨gb474, 2, none⟩) (Kd.R_far (p := ⟨gb474, 1, none⟩) (Kd.R_far (p := ⟨gb474, 0, none⟩) (Kd.R_types HO464.out BK474.out (by decide)) (fun _ hk => hk.2) (.int .i64 t466)) (fun _ hk => hk.2) (.int .i64 t467)) (fun _ hk => hk.2) (.slice Ao26 t468.length co26)) (fun _ hk => hk.2) (.slice Ao27 t471.length co27)) (fun _ h_ => h_.1))))) (below_size (qB))); have n6_ := Aside0.mk (blk_below (g := gb452) (o := .cells #[.int .i64 a0_0, .int .i64 a0_1, .slice A0_2 l0_2.length c0_2, .slice A0_3 l0_3.length c0_3] 25 (0, 0)) (qF BK452.out) hb); have n7_ := Aside0.mk (blk_below (g := gb474) (o := .cells #[.int .i64 t466, .int .i64 t467, .slice Ao26 t468.length co26, .slice Ao27 t471.length co27] 31 (0, 0)) (by (with_reducible repeat (first | refine blk_drewN ?_ _ | refine blk_drew ?_ | refine blk_alloc ?_ _)); refine blk_put (cs := #[.int .i64 t466, .int .i64 t467, .slice Ao26 t468.length co26, .slice none 0 0]) ?_ 3 _ rfl; refine blk_put (cs := #[.int .i64 t466, .int .i64 t467, .slice none 0 0, .slice none 0 0]) ?_ 2 _ rfl; refine blk_put (cs := #[.int .i64 t466, .int .i64 0, .slice none 0 0, .slice none 0 0]) ?_ 1 _ rfl; refine blk_put (cs := #[.int .i64 0, .int .i64 0, .slice none 0 0, .slice none 0 0]) ?_ 0 _ rfl; exact qK BK474.out) hb); have n8_ := Aside0.mk (below_step (qB) hb); clear HO458; clear HO461; clear HO464; clear HO470; clear HO473; clear BK452; clear BK474; clear HB; have HO458 := n0_; have HO461 := n1_; have HO464 := n2_; have HO470 := n3_; have HO473 := n4_; have HO477 := n5_; have BK452 := n6_; have BK474 := n7_; have HB := n8_; clear n0_ n1_ n2_ n3_ n4_ n5_ n6_ n7_ n8_; (try clear hb); (try clear hb2); (try clear hk); (try clear hi); (try clear ho0)))
  (try simp only [Act.put, List.setIfInBounds_toArray, List.set_cons_zero, List.set_cons_succ])
  go_cut [44] (fun v44 wc => ∃ (kq : Nat) (x44_11 : Bool), v44 = .bool x44_11 ∧ Aside0 (laws_FnExactStateOf.j0 kq a1 t462 t465 t475 t478 x44_11 a0_0 a0_1 l0_2 l0_3 t466 t467 t468 t471 = some true) ∧ Aside0 (kq ≤ k) ∧ Aside0 (Kd.R (Kd.int .u64) 66 wc w.heap.size (fun k_ => some k_ ≠ (v476 : Value).ownBlock) v463 t462) ∧ Aside0 (Kd.R (Kd.int .u64) 66 wc w.heap.size (fun k_ => some k_ ≠ (v463 : Value).ownBlock) v476 t475) ∧ Aside0 (Kd.R k82 82 wc w.heap.size (fun _ => True) (.slice Ao26 t468.length co26) t468) ∧ Aside0 (Kd.R k54 54 wc w.heap.size (fun k_ => some k_ ≠ ((.slice Ao26 t468.length co26) : Value).ownBlock) (.slice Ao27 t471.length co27) t471) ∧ Aside0 (wc.heap[gb452]? = some (.cells #[.int .i64 a0_0, .int .i64 a0_1, (.slice A0_2 l0_2.length c0_2), (.slice A0_3 l0_3.length c0_3)] 25 (0, 0))) ∧ Aside0 (wc.heap[gb474]? = some (.cells #[.int .i64 t466, .int .i64 t467, (.slice Ao26 t468.length co26), (.slice Ao27 t471.length co27)] 31 (0, 0))) ∧ Aside0 (Below w.heap.size w wc))
  case first =>
   have H := HC12.out
   clear HC12
   replace H := Option.bind_eq_some_iff.mp H
   obtain ⟨t479, A290, H⟩ := H
   replace H : (if t479 = true then (laws_FnExactStateOf.j0 k a1 t462 t465 t475 t478 (t478 != t465) a0_0 a0_1 l0_2 l0_3 t466 t467 t468 t471) else (laws_FnExactStateOf.j0 k a1 t462 t465 t475 t478 true a0_0 a0_1 l0_2 l0_3 t466 t467 t468 t471)) = some true := H
   have A29 := Aside0.mk A290
   clear A290
   by_cases c30 : t479 = true
   ·subst c30
    have H1 : (laws_FnExactStateOf.j0 k a1 t462 t465 t475 t478 (t478 != t465) a0_0 a0_1 l0_2 l0_3 t466 t467 t468 t471) = some true := by rw [if_pos rfl] at H; exact H
    clear H
    have H := H1
    clear H1
    have H' := Aside0.mk H
    clear H
    obtain ⟨Ao31, co31, eo31⟩ := Kd.R_slice HO477.out
    subst eo31
    obtain ⟨Ao32, co32, eo32⟩ := Kd.R_slice HO464.out
    subst eo32
    go_wp2_with (first | ((with_reducible refine gate_callee (f := 17) rfl ?_); refine goesL_ (some 38) rfl rfl Try.func17 (by kernel_rfl) rfl #[.slice Ao31 t475.length co31, .slice Ao32 t462.length co32] rfl qG ?_; (with_reducible refine (laws_eqUint64S.calls k _ _ t475 _ _ t462 true _ ?side1 ?side2 ?side3 ?side4 A29.out).mono ?_); (case side1 => repeat (first | exact (Kd.R_reads' HO477.out).2.2 | (with_reducible refine Kd.C_alloc ?_ _) | (with_reducible refine Kd.C_drewN ?_ _) | (with_reducible refine Kd.C_drew ?_))); (case side2 => exact (Kd.R_reads' HO477.out).2.1); (case side3 => repeat (first | exact (Kd.R_reads' HO464.out).2.2 | (with_reducible refine Kd.C_alloc ?_ _) | (with_reducible refine Kd.C_drewN ?_ _) | (with_reducible refine Kd.C_drew ?_))); (case side4 => exact (Kd.R_reads' HO464.out).2.1); rintro e w' ⟨rfl, ⟨nd, rfl⟩⟩; refine ⟨_, rfl, ?_⟩))
    go_meet
    case rel => exact ⟨_, ((t478 != t465)), qS, H', ⟨by first | omega | exact Nat.le_refl _⟩, ⟨by (with_reducible repeat (first | apply Kd.R_alloc | apply Kd.R_drewN | apply Kd.R_drew)); exact Kd.R_mono HO464.out (fun _ hk => hk.2)⟩, ⟨by (with_reducible repeat (first | apply Kd.R_alloc | apply Kd.R_drewN | apply Kd.R_drew)); exact Kd.R_mono HO477.out (fun _ hk => hk.2)⟩, ⟨by (with_reducible repeat (first | apply Kd.R_alloc | apply Kd.R_drewN | apply Kd.R_drew)); exact Kd.R_mono HO470.out (fun _ hk => trivial)⟩, ⟨by (with_reducible repeat (first | apply Kd.R_alloc | apply Kd.R_drewN | apply Kd.R_drew)); exact Kd.R_mono HO473.out (fun _ hk => hk.1.1)⟩, ⟨by exact qK BK452.out⟩, ⟨by exact qK BK474.out⟩, ⟨qB⟩⟩
   ·replace c30 := Bool.eq_false_iff.mpr c30
    subst c30
    have H1 : (laws_FnExactStateOf.j0 k a1 t462 t465 t475 t478 true a0_0 a0_1 l0_2 l0_3 t466 t467 t468 t471) = some true := by rw [if_neg (show ¬ (false = true) by decide)] at H; exact H
    exact absurd H1 (by cases k <;> simp [laws_FnExactStateOf.j0])
  case rest =>
   clear HC12
   try clear c1
   try clear c2
   try clear p2
   try clear c3
   try clear c4
   try clear c4b0
   try clear c6
   try clear c7
   try clear c9
   try clear c17
   try clear c18
   try clear c19
   try clear c24
   try clear c30
   try clear hcz14_0
   try clear hcz14_1
   try clear hcz14_2
   try clear hcz14_3
   try clear hcz16_0
   try clear hcz16_1
   try clear hcz16_2
   try clear hcz16_3
   try clear hcz21_0
   try clear hcz21_1
   try clear hcz21_2
   try clear hcz21_3
   try clear hcz25_0
   try clear hcz25_1
   try clear hcz25_2
   try clear hcz25_3
   try clear hcz6_0
   try clear hcz6_1
   try clear hcz6_2
   try clear hcz6_3
   try clear hfz14_0
   try clear hfz14_1
   try clear hfz14_2
   try clear hfz14_3
   try clear hfz16_0
   try clear hfz16_1
   try clear hfz16_2
   try clear hfz16_3
   try clear hfz21_0
   try clear hfz21_1
   try clear hfz21_2
   try clear hfz21_3
   try clear hfz25_0
   try clear hfz25_1
   try clear hfz25_2
   try clear hfz25_3
   try clear hfz6_0
   try clear hfz6_1
   try clear hfz6_2
   try clear hfz6_3
   obtain ⟨kq, x44_11, rfl, HA, HJ11, HO_6, HO_9, HO_475002, HO_475003, BK452, BK474, HB⟩ := hcut
   cases kq with
   | zero => exact absurd HA.out (by simp [laws_FnExactStateOf.j0])
   | succ kj11 =>
    have H := HA.out
    clear HA
    simp only [laws_FnExactStateOf.j0] at H
    by_cases c35 : x44_11 = true
    ·subst c35
     have H1 : (some false) = some true := by rw [if_pos rfl] at H; exact H
     exact absurd H1 (by simp)
    ·replace c35 := Bool.eq_false_iff.mpr c35
     subst c35
     have H1 : ((laws_toProgram.f kj11 a0_0 a0_1 l0_2 l0_3).bind fun bt480 => ((laws_eqProgram.f kj11 t466 t467 t468 t471 bt480.1 bt480.2.1 bt480.2.2.1 bt480.2.2.2).bind fun t488 => (if t488 = true then ((laws_markProgram.f t466 t467 t468 t471 1).bind fun t489 => (if t489 < 0 then (laws_FnExactStateOf.j1 kj11 a1 t462 t465 t475 true a0_0 a0_1 l0_2 l0_3) else ((laws_eqUint64S.f kj11 t475 t462).bind fun t490 => (if t490 = true then (laws_FnExactStateOf.j1 kj11 a1 t462 t465 t475 (t478 != t465) a0_0 a0_1 l0_2 l0_3) else (laws_FnExactStateOf.j1 kj11 a1 t462 t465 t475 true a0_0 a0_1 l0_2 l0_3))))) else (some false)))) = some true := by rw [if_neg (show ¬ (false = true) by decide)] at H; exact H
     clear H
     have H := H1
     clear H1
     replace H := Option.bind_eq_some_iff.mp H
     obtain ⟨⟨t480, t481, t482, t485⟩, A360, H⟩ := H
     replace H : ((laws_eqProgram.f kj11 t466 t467 t468 t471 t480 t481 t482 t485).bind fun t488 => (if t488 = true then ((laws_markProgram.f t466 t467 t468 t471 1).bind fun t489 => (if t489 < 0 then (laws_FnExactStateOf.j1 kj11 a1 t462 t465 t475 true a0_0 a0_1 l0_2 l0_3) else ((laws_eqUint64S.f kj11 t475 t462).bind fun t490 => (if t490 = true then (laws_FnExactStateOf.j1 kj11 a1 t462 t465 t475 (t478 != t465) a0_0 a0_1 l0_2 l0_3) else (laws_FnExactStateOf.j1 kj11 a1 t462 t465 t475 true a0_0 a0_1 l0_2 l0_3))))) else (some false))) = some true := H
     have A36 := Aside0.mk A360
     clear A360
     replace H := Option.bind_eq_some_iff.mp H
     obtain ⟨t488, A370, H⟩ := H
     replace H : (if t488 = true then ((laws_markProgram.f t466 t467 t468 t471 1).bind fun t489 => (if t489 < 0 then (laws_FnExactStateOf.j1 kj11 a1 t462 t465 t475 true a0_0 a0_1 l0_2 l0_3) else ((laws_eqUint64S.f kj11 t475 t462).bind fun t490 => (if t490 = true then (laws_FnExactStateOf.j1 kj11 a1 t462 t465 t475 (t478 != t465) a0_0 a0_1 l0_2 l0_3) else (laws_FnExactStateOf.j1 kj11 a1 t462 t465 t475 true a0_0 a0_1 l0_2 l0_3))))) else (some false)) = some true := H
     have A37 := Aside0.mk A370
     clear A370
     by_cases c38 : t488 = true
     ·subst c38
      have H1 : ((laws_markProgram.f t466 t467 t468 t471 1).bind fun t489 => (if t489 < 0 then (laws_FnExactStateOf.j1 kj11 a1 t462 t465 t475 true a0_0 a0_1 l0_2 l0_3) else ((laws_eqUint64S.f kj11 t475 t462).bind fun t490 => (if t490 = true then (laws_FnExactStateOf.j1 kj11 a1 t462 t465 t475 (t478 != t465) a0_0 a0_1 l0_2 l0_3) else (laws_FnExactStateOf.j1 kj11 a1 t462 t465 t475 true a0_0 a0_1 l0_2 l0_3))))) = some true := by rw [if_pos rfl] at H; exact H
      clear H
      have H := H1
      clear H1
      replace H := Option.bind_eq_some_iff.mp H
      obtain ⟨t489, A390, H⟩ := H
      replace H : (if t489 < 0 then (laws_FnExactStateOf.j1 kj11 a1 t462 t465 t475 true a0_0 a0_1 l0_2 l0_3) else ((laws_eqUint64S.f kj11 t475 t462).bind fun t490 => (if t490 = true then (laws_FnExactStateOf.j1 kj11 a1 t462 t465 t475 (t478 != t465) a0_0 a0_1 l0_2 l0_3) else (laws_FnExactStateOf.j1 kj11 a1 t462 t465 t475 true a0_0 a0_1 l0_2 l0_3)))) = some true := H
      have A39 := Aside0.mk A390
      clear A390
      have HC40 := Aside0.mk H
      clear H
      try go_wp2
      have n0_ := Aside0.mk (Kd.R_drew HO_6.out)
      have n1_ := Aside0.mk (Kd.R_drew HO_9.out)
      have n2_ := Aside0.mk (Kd.R_drew HO_475002.out)
      have n3_ := Aside0.mk (Kd.R_drew HO_475003.out)
      have n4_ := Aside0.mk (blk_drew BK452.out)
      have n5_ := Aside0.mk (blk_drew BK474.out)
      have n6_ := Aside0.mk (below_drew1 HB.out)
      clear HO_6
      clear HO_9
      clear HO_475002
      clear HO_475003
      clear BK452
      clear BK474
      clear HB
      have HO_6 := n0_
      have HO_9 := n1_
      have HO_475002 := n2_
      have HO_475003 := n3_
      have BK452 := n4_
      have BK474 := n5_
      have HB := n6_
      clear n0_ n1_ n2_ n3_ n4_ n5_ n6_
      refine start_ (n := 5) (S := fun w' => w'.cell? ⟨gb474, 0, none⟩ = some (.int .i64 t466) ∧ w'.cell? ⟨gb474, 1, none⟩ = some (.int .i64 t467) ∧ w'.cell? ⟨gb474, 2, none⟩ = some (.slice Ao26 t468.length co26) ∧ w'.cell? ⟨gb474, 3, none⟩ = some (.slice Ao27 t471.length co27) ∧ w'.cell? ⟨gb452, 0, none⟩ = some (.int .i64 a0_0) ∧ w'.cell? ⟨gb452, 1, none⟩ = some (.int .i64 a0_1) ∧ w'.cell? ⟨gb452, 2, none⟩ = some (.slice A0_2 l0_2.length c0_2) ∧ w'.cell? ⟨gb452, 3, none⟩ = some (.slice A0_3 l0_3.length c0_3)) (ds := []) #[false, false, false, false, false] (by kernel_rfl) rfl rfl ⟨(blk_cell BK474.out 0).trans rfl, (blk_cell BK474.out 1).trans rfl, (blk_cell BK474.out 2).trans rfl, (blk_cell BK474.out 3).trans rfl, (blk_cell BK452.out 0).trans rfl, (blk_cell BK452.out 1).trans rfl, (blk_cell BK452.out 2).trans rfl, (blk_cell BK452.out 3).trans rfl⟩ (fun hHeld => ?_)
      generalize wc.drew = w41 at HO_6 HO_9 HO_475002 HO_475003 BK452 BK474 HB hHeld ⊢
      refine take_ (i := 0) (N := some 45) (v := ?_) (a' := ?_) #[true, false, false, false, false] rfl rfl (by kernel_rfl) (fun _ _ _ h => h) (Or.inl ⟨by rfl, ?_⟩) hHeld ?_ ?_
      rotate_left
      ·rintro w' ⟨s0, s1, s2, s3, s4, s5, s6, s7⟩
       go_simp
       with_reducible rfl
      rotate_left
      ·simp only [Act.put, List.setIfInBounds_toArray, List.set_cons_zero, List.set_cons_succ, i64_w, i32_w]
       rfl
      refine take_ (i := 1) (N := some 46) (v := ?_) (a' := ?_) #[true, true, false, false, false] rfl rfl (by kernel_rfl) (fun _ _ _ h => h) (Or.inl ⟨by rfl, ?_⟩) hHeld ?_ ?_
      rotate_left
      ·rintro w' ⟨s0, s1, s2, s3, s4, s5, s6, s7⟩
       go_simp
       with_reducible rfl
      rotate_left
      ·simp only [Act.put, List.setIfInBounds_toArray, List.set_cons_zero, List.set_cons_succ, i64_w, i32_w]
       rfl
      refine one_ (i := 2) (N := some 47) #[true, true, true, false, false] rfl rfl (by kernel_rfl) (by decide) (fun K hK => ?_)
      refine goes_ Try.func9 (by kernel_rfl) rfl #[.agg #[.int .i64 a0_0, .int .i64 a0_1, .slice A0_2 l0_2.length c0_2, .slice A0_3 l0_3.length c0_3]] (by rfl) rfl rfl qG ?_
      with_reducible refine (laws_toProgram.calls kj11 a0_0 a0_1 _ _ l0_2 _ _ l0_3 t480 t481 t482 t485 _ ?side1 ?side2 ?side3 ?side4 A36.out).mono ?_
      (case side1 => exact qC (Kd.C_below HR0_2.out HB.out))
      (case side2 => exact HC0_2.out)
      (case side3 => exact qC (Kd.C_below HR0_3.out HB.out))
      (case side4 => exact HC0_3.out)
      rintro e w42 ⟨v483, v486, rfl, ho0, ho1, hb⟩
      refine ⟨_, rfl, ?_⟩
      have n0_ := Aside0.mk (Kd.R_below (qR HO_6.out) hb)
      have n1_ := Aside0.mk (Kd.R_below (qR HO_9.out) hb)
      have n2_ := Aside0.mk (Kd.R_elder' (qR HO_475002.out) (Kd.R_base ho0) hb)
      have n3_ := Aside0.mk (Kd.R_mono (Kd.R_told (Kd.R_told (Kd.R_old (qR HO_475003.out) hb) (Kd.R_base ho0)) (Kd.R_base ho1)) (fun _ h_ => h_.1))
      have n4_ := Aside0.mk (Kd.R_lower (Kd.R_new' ho0 (Kd.R_lt (qR HO_475002.out))) (below_size (qB)))
      have n5_ := Aside0.mk (Kd.R_lower (Kd.R_new' (Kd.R_new' ho1 (Kd.R_lt (qR HO_475002.out))) (Kd.R_lt (qR HO_475003.out))) (below_size (qB)))
      have n6_ := Aside0.mk (blk_below (g := gb452) (o := .cells #[.int .i64 a0_0, .int .i64 a0_1, .slice A0_2 l0_2.length c0_2, .slice A0_3 l0_3.length c0_3] 25 (0, 0)) (qK BK452.out) hb)
      have n7_ := Aside0.mk (blk_below (g := gb474) (o := .cells #[.int .i64 t466, .int .i64 t467, .slice Ao26 t468.length co26, .slice Ao27 t471.length co27] 31 (0, 0)) (qK BK474.out) hb)
      have n8_ := Aside0.mk (below_step (qB) hb)
      clear HO_6
      clear HO_9
      clear HO_475002
      clear HO_475003
      clear BK452
      clear BK474
      clear HB
      have HO_6 := n0_
      have HO_9 := n1_
      have HO_475002 := n2_
      have HO_475003 := n3_
      have HO484 := n4_
      have HO487 := n5_
      have BK452 := n6_
      have BK474 := n7_
      have HB := n8_
      clear n0_ n1_ n2_ n3_ n4_ n5_ n6_ n7_ n8_
      (try clear hb)
      (try clear hb2)
      (try clear hk)
      (try clear hi)
      (try clear ho0)
      (try clear ho1)
      obtain ⟨Ao43, co43, eo43⟩ := Kd.R_slice HO484.out
      (first | subst eo43 | (injection eo43 with f1_ f2_ f3_; have f4_ := f1_.symm; have f5_ := f3_.symm; clear f1_ f2_ f3_; subst f4_; subst f5_))
      obtain ⟨Ao44, co44, eo44⟩ := Kd.R_slice HO487.out
      (first | subst eo44 | (injection eo44 with f1_ f2_ f3_; have f4_ := f1_.symm; have f5_ := f3_.symm; clear f1_ f2_ f3_; subst f4_; subst f5_))
      refine hK.out _ _ ⟨(blk_cell BK474.out 0).trans rfl, (blk_cell BK474.out 1).trans rfl, (blk_cell BK474.out 2).trans rfl, (blk_cell BK474.out 3).trans rfl, (blk_cell BK452.out 0).trans rfl, (blk_cell BK452.out 1).trans rfl, (blk_cell BK452.out 2).trans rfl, (blk_cell BK452.out 3).trans rfl⟩ (fun hHeld => ?_)
      clear hK K
      refine norm_ (a' := ?_) ?_ ?_
      rotate_left
      ·show Act.put _ (some 47) _ = _
       simp only [Act.put, List.setIfInBounds_toArray, List.set_cons_zero, List.set_cons_succ, i64_w, i32_w]
       rfl
      refine one_ (i := 3) (N := some 48) #[true, true, true, true, false] rfl rfl (by kernel_rfl) (by decide) (fun K hK => ?_)
      refine goes_ Try.func11 (by kernel_rfl) rfl #[.agg #[.int .i64 t466, .int .i64 t467, .slice Ao26 t468.length co26, .slice Ao27 t471.length co27], .agg #[.int .i64 t480, .int .i64 t481, .slice Ao43 t482.length co43, .slice Ao44 t485.length co44]] (by rfl) rfl rfl qG ?_
      with_reducible refine (laws_eqProgram.calls kj11 t466 t467 _ _ t468 _ _ t471 t480 t481 _ _ t482 _ _ t485 true _ ?side1 ?side2 ?side3 ?side4 ?side5 ?side6 ?side7 ?side8 A37.out).mono ?_
      (case side1 => repeat (first | exact (Kd.R_reads' HO_475002.out).2.2 | (with_reducible refine Kd.C_alloc ?_ _) | (with_reducible refine Kd.C_drewN ?_ _) | (with_reducible refine Kd.C_drew ?_)))
      (case side2 => exact (Kd.R_reads' HO_475002.out).2.1)
      (case side3 => repeat (first | exact (Kd.R_reads' HO_475003.out).2.2 | (with_reducible refine Kd.C_alloc ?_ _) | (with_reducible refine Kd.C_drewN ?_ _) | (with_reducible refine Kd.C_drew ?_)))
      (case side4 => exact (Kd.R_reads' HO_475003.out).2.1)
      (case side5 => repeat (first | exact (Kd.R_reads' HO484.out).2.2 | (with_reducible refine Kd.C_alloc ?_ _) | (with_reducible refine Kd.C_drewN ?_ _) | (with_reducible refine Kd.C_drew ?_)))
      (case side6 => exact (Kd.R_reads' HO484.out).2.1)
      (case side7 => repeat (first | exact (Kd.R_reads' HO487.out).2.2 | (with_reducible refine Kd.C_alloc ?_ _) | (with_reducible refine Kd.C_drewN ?_ _) | (with_reducible refine Kd.C_drew ?_)))
      (case side8 => exact (Kd.R_reads' HO487.out).2.1)
      rintro e w45 ⟨rfl, hb⟩
      refine ⟨_, rfl, ?_⟩
      have n0_ := Aside0.mk (Kd.R_below (qR HO_6.out) hb)
      have n1_ := Aside0.mk (Kd.R_below (qR HO_9.out) hb)
      have n2_ := Aside0.mk (Kd.R_below (qR HO_475002.out) hb)
      have n3_ := Aside0.mk (Kd.R_below (qR HO_475003.out) hb)
      have n4_ := Aside0.mk (Kd.R_below (qR HO484.out) hb)
      have n5_ := Aside0.mk (Kd.R_below (qR HO487.out) hb)
      have n6_ := Aside0.mk (blk_below (g := gb452) (o := .cells #[.int .i64 a0_0, .int .i64 a0_1, .slice A0_2 l0_2.length c0_2, .slice A0_3 l0_3.length c0_3] 25 (0, 0)) (qK BK452.out) hb)
      have n7_ := Aside0.mk (blk_below (g := gb474) (o := .cells #[.int .i64 t466, .int .i64 t467, .slice Ao26 t468.length co26, .slice Ao27 t471.length co27] 31 (0, 0)) (qK BK474.out) hb)
      have n8_ := Aside0.mk (below_step (qB) hb)
      clear HO_6
      clear HO_9
      clear HO_475002
      clear HO_475003
      clear HO484
      clear HO487
      clear BK452
      clear BK474
      clear HB
      have HO_6 := n0_
      have HO_9 := n1_
      have HO_475002 := n2_
      have HO_475003 := n3_
      have HO484 := n4_
      have HO487 := n5_
      have BK452 := n6_
      have BK474 := n7_
      have HB := n8_
      clear n0_ n1_ n2_ n3_ n4_ n5_ n6_ n7_ n8_
      (try clear hb)
      (try clear hb2)
      (try clear hk)
      (try clear hi)
      refine hK.out _ _ ⟨(blk_cell BK474.out 0).trans rfl, (blk_cell BK474.out 1).trans rfl, (blk_cell BK474.out 2).trans rfl, (blk_cell BK474.out 3).trans rfl, (blk_cell BK452.out 0).trans rfl, (blk_cell BK452.out 1).trans rfl, (blk_cell BK452.out 2).trans rfl, (blk_cell BK452.out 3).trans rfl⟩ (fun hHeld => ?_)
      clear hK K
      refine norm_ (a' := ?_) ?_ ?_
      rotate_left
      ·show Act.put _ (some 48) _ = _
       simp only [Act.put, List.setIfInBounds_toArray, List.set_cons_zero, List.set_cons_succ, i64_w, i32_w]
       rfl
      refine pure_ (i := 4) (N := some 49) (v := ?_) (a' := ?_) #[true, true, true, true, true] rfl rfl (by kernel_rfl) (fun _ _ _ h => h) (Or.inl ⟨by rfl, ?_⟩) ?_ ?_
      rotate_left
      ·intro w'
       go_simp
       with_reducible rfl
      rotate_left
      ·simp only [Act.put, List.setIfInBounds_toArray, List.set_cons_zero, List.set_cons_succ, i64_w, i32_w]
       rfl
      refine done_ (by kernel_rfl) ?_
      have hnb46 := NB474_452.out
      have hnc46 := NB452_474.out
      have hcz47_0 : w45.cell? ⟨gb474, 0, none⟩ = some (.int .i64 t466) := (blk_cell BK474.out 0).trans rfl
      have hcz47_1 : w45.cell? ⟨gb474, 1, none⟩ = some (.int .i64 t467) := (blk_cell BK474.out 1).trans rfl
      have hcz47_2 : w45.cell? ⟨gb474, 2, none⟩ = some (.slice Ao26 t468.length co26) := (blk_cell BK474.out 2).trans rfl
      have hcz47_3 : w45.cell? ⟨gb474, 3, none⟩ = some (.slice Ao27 t471.length co27) := (blk_cell BK474.out 3).trans rfl
      have hfz47_0 := blk_frozen BK474.out 0
      have hfz47_1 := blk_frozen BK474.out 1
      have hfz47_2 := blk_frozen BK474.out 2
      have hfz47_3 := blk_frozen BK474.out 3
      go_upto_region 14 with (first | ((with_reducible refine gate_callee (f := 20) rfl ?_); refine goesL_ (some 52) rfl rfl Try.func20 (by kernel_rfl) rfl #[.agg #[.int .i64 t466, .int .i64 t467, .slice Ao26 t468.length co26, .slice Ao27 t471.length co27], .int .i64 1] rfl qG ?_; (with_reducible refine (laws_markProgram.calls t466 t467 ?pp0 (.slice Ao26 t468.length co26) t468 ?pp1 (.slice Ao27 t471.length co27) t471 1 t489 w _ ?side1 ?side2 ?side3 A39.out).mono ?_); (case side1 => repeat (first | (with_reducible first | exact HB.out | apply below_alloc | apply pw_below_drewN | apply below_drew1 | refine below_set ?_ GE452.out | refine below_set ?_ GE474.out) | exact HB.out)); (case side2 => exact HO_475002.out); (case side3 => exact HO_475003.out); rintro e w48 ⟨rfl, hb, hkp⟩; refine ⟨_, rfl, ?_⟩; have n0_ := Aside0.mk (Kd.R_mono (ok' := fun k_ => some k_ ≠ (v476 : Value).ownBlock) (R_keepT HO_6.out hkp (by decide)) (fun k_ hk_ => by first | exact hk_ | exact hk_.1 | exact hk_.1.1 | trivial)); have n1_ := Aside0.mk (Kd.R_mono (ok' := fun k_ => some k_ ≠ (v463 : Value).ownBlock) (R_keepT HO_9.out hkp (by decide)) (fun k_ hk_ => by first | exact hk_ | exact hk_.1 | exact hk_.1.1 | trivial)); have n2_ := Aside0.mk (blk_keepT (qK BK452.out) hkp (by decide)); have n3_ := Aside0.mk (blk_keepT (qK BK474.out) hkp (by decide)); have n6_ := Aside0.mk (hb); clear HO_6; clear HO_9; clear BK452; clear BK474; clear HO484; clear HO487; clear HB; clear HO_475002; clear HO_475003; have HO_6 := n0_; have HO_9 := n1_; have BK452 := n2_; have BK474 := n3_; have HB := n6_; clear n0_ n1_ n2_ n3_ n6_; (try clear hb); (try clear hkp)))
      (try simp only [Act.put, List.setIfInBounds_toArray, List.set_cons_zero, List.set_cons_succ])
      go_cut [65] (fun v65 wc => ∃ (kq : Nat) (x65_39 : Bool), v65 = .bool x65_39 ∧ Aside0 (laws_FnExactStateOf.j1 kq a1 t462 t465 t475 x65_39 a0_0 a0_1 l0_2 l0_3 = some true) ∧ Aside0 (kq ≤ kj11) ∧ Aside0 (Kd.R (Kd.int .u64) 66 wc w.heap.size (fun k_ => some k_ ≠ (v476 : Value).ownBlock) v463 t462) ∧ Aside0 (Kd.R (Kd.int .u64) 66 wc w.heap.size (fun k_ => some k_ ≠ (v463 : Value).ownBlock) v476 t475) ∧ Aside0 (wc.heap[gb452]? = some (.cells #[.int .i64 a0_0, .int .i64 a0_1, (.slice A0_2 l0_2.length c0_2), (.slice A0_3 l0_3.length c0_3)] 25 (0, 0))) ∧ Aside0 (Below w.heap.size w wc))
      case first =>
       have H := HC40.out
       clear HC40
       by_cases c49 : t489 < 0
       ·rw [if_pos c49] at H
        exact absurd H (by cases kj11 <;> simp [laws_FnExactStateOf.j1])
       ·rw [if_neg c49] at H
        have c49b0 : decide (t489 < 0) = false := decide_eq_false c49
        clear c49
        (first | rw [c49b0] | (simp only [i64_w, i32_w]; rw [c49b0]) | skip)
        replace H := Option.bind_eq_some_iff.mp H
        obtain ⟨t490, A500, H⟩ := H
        replace H : (if t490 = true then (laws_FnExactStateOf.j1 kj11 a1 t462 t465 t475 (t478 != t465) a0_0 a0_1 l0_2 l0_3) else (laws_FnExactStateOf.j1 kj11 a1 t462 t465 t475 true a0_0 a0_1 l0_2 l0_3)) = some true := H
        have A50 := Aside0.mk A500
        clear A500
        by_cases c51 : t490 = true
        ·subst c51
         have H1 : (laws_FnExactStateOf.j1 kj11 a1 t462 t465 t475 (t478 != t465) a0_0 a0_1 l0_2 l0_3) = some true := by rw [if_pos rfl] at H; exact H
         clear H
         have H := H1
         clear H1
         have H' := Aside0.mk H
         clear H
         obtain ⟨Ao52, co52, eo52⟩ := Kd.R_slice HO_9.out
         subst eo52
         obtain ⟨Ao53, co53, eo53⟩ := Kd.R_slice HO_6.out
         subst eo53
         go_wp2_with (first | (go_at_call 17; (with_reducible refine (laws_eqUint64S.calls kj11 _ _ t475 _ _ t462 true _ ?side1 ?side2 ?side3 ?side4 A50.out).mono ?_); (case side1 => repeat (first | exact (Kd.R_reads' HO_9.out).2.2 | (with_reducible refine Kd.C_alloc ?_ _) | (with_reducible refine Kd.C_drewN ?_ _) | (with_reducible refine Kd.C_drew ?_))); (case side2 => exact (Kd.R_reads' HO_9.out).2.1); (case side3 => repeat (first | exact (Kd.R_reads' HO_6.out).2.2 | (with_reducible refine Kd.C_alloc ?_ _) | (with_reducible refine Kd.C_drewN ?_ _) | (with_reducible refine Kd.C_drew ?_))); (case side4 => exact (Kd.R_reads' HO_6.out).2.1); rintro e w' ⟨rfl, ⟨nd, rfl⟩⟩))
         go_meet
         case rel => exact ⟨_, ((t478 != t465)), qS, H', ⟨by have := HJ11.out; first | omega | exact Nat.le_refl _⟩, ⟨qR HO_6.out⟩, ⟨qR HO_9.out⟩, ⟨by exact qK BK452.out⟩, ⟨qB⟩⟩
        ·replace c51 := Bool.eq_false_iff.mpr c51
         subst c51
         have H1 : (laws_FnExactStateOf.j1 kj11 a1 t462 t465 t475 true a0_0 a0_1 l0_2 l0_3) = some true := by rw [if_neg (show ¬ (false = true) by decide)] at H; exact H
         exact absurd H1 (by cases kj11 <;> simp [laws_FnExactStateOf.j1])
      case rest =>
       clear HC40
       try clear c1
       try clear c2
       try clear p2
       try clear c3
       try clear c4
       try clear c4b0
       try clear c5
       try clear c6
       try clear c7
       try clear c9
       try clear c11
       try clear c17
       try clear c18
       try clear c19
       try clear c20
       try clear c24
       try clear c30
       try clear c35
       try clear c38
       try clear c46
       try clear c49
       try clear c49b0
       try clear c51
       try clear hcz14_0
       try clear hcz14_1
       try clear hcz14_2
       try clear hcz14_3
       try clear hcz16_0
       try clear hcz16_1
       try clear hcz16_2
       try clear hcz16_3
       try clear hcz21_0
       try clear hcz21_1
       try clear hcz21_2
       try clear hcz21_3
       try clear hcz25_0
       try clear hcz25_1
       try clear hcz25_2
       try clear hcz25_3
       try clear hcz47_0
       try clear hcz47_1
       try clear hcz47_2
       try clear hcz47_3
       try clear hcz6_0
       try clear hcz6_1
       try clear hcz6_2
       try clear hcz6_3
       try clear hfz14_0
       try clear hfz14_1
       try clear hfz14_2
       try clear hfz14_3
       try clear hfz16_0
       try clear hfz16_1
       try clear hfz16_2
       try clear hfz16_3
       try clear hfz21_0
       try clear hfz21_1
       try clear hfz21_2
       try clear hfz21_3
       try clear hfz25_0
       try clear hfz25_1
       try clear hfz25_2
       try clear hfz25_3
       try clear hfz47_0
       try clear hfz47_1
       try clear hfz47_2
       try clear hfz47_3
       try clear hfz6_0
       try clear hfz6_1
       try clear hfz6_2
       try clear hfz6_3
       try clear p2
       obtain ⟨kq, x65_39, rfl, HA, HJ39, HO_6, HO_9, BK452, HB⟩ := hcut
       cases kq with
       | zero => exact absurd HA.out (by simp [laws_FnExactStateOf.j1])
       | succ kj39 =>
        have H := HA.out
        clear HA
        simp only [laws_FnExactStateOf.j1] at H
        by_cases c56 : x65_39 = true
        ·subst c56
         have H1 : (some false) = some true := by rw [if_pos rfl] at H; exact H
         exact absurd H1 (by simp)
        ·replace c56 := Bool.eq_false_iff.mpr c56
         subst c56
         have H1 : ((laws_markUint64S.f kj39 t475 1).bind fun bt491 => ((laws_heldUint64S.f kj39 bt491.2 1).bind fun t493 => (if t493 < 0 then (some false) else (if t493 = bt491.1 then ((laws_toProgram.f kj39 a0_0 a0_1 l0_2 l0_3).bind fun bt494 => ((impl_StateOf.f kj39 bt494.1 bt494.2.1 bt494.2.2.1 bt494.2.2.2 a1).bind fun bt502 => ((laws_eqUint64S.f kj39 bt502.1 t462).bind fun t506 => (if t506 = true then (laws_FnExactStateOf.j2 kj39 bt491.2 bt491.1 (bt502.2 != t465)) else (laws_FnExactStateOf.j2 kj39 bt491.2 bt491.1 true))))) else (some false))))) = some true := by rw [if_neg (show ¬ (false = true) by decide)] at H; exact H
         clear H
         have H := H1
         clear H1
         replace H := Option.bind_eq_some_iff.mp H
         obtain ⟨⟨t491, t492⟩, A570, H⟩ := H
         replace H : ((laws_heldUint64S.f kj39 t492 1).bind fun t493 => (if t493 < 0 then (some false) else (if t493 = t491 then ((laws_toProgram.f kj39 a0_0 a0_1 l0_2 l0_3).bind fun bt494 => ((impl_StateOf.f kj39 bt494.1 bt494.2.1 bt494.2.2.1 bt494.2.2.2 a1).bind fun bt502 => ((laws_eqUint64S.f kj39 bt502.1 t462).bind fun t506 => (if t506 = true then (laws_FnExactStateOf.j2 kj39 t492 t491 (bt502.2 != t465)) else (laws_FnExactStateOf.j2 kj39 t492 t491 true))))) else (some false)))) = some true := H
         have A57 := Aside0.mk A570
         clear A570
         replace H := Option.bind_eq_some_iff.mp H
         obtain ⟨t493, A580, H⟩ := H
         replace H : (if t493 < 0 then (some false) else (if t493 = t491 then ((laws_toProgram.f kj39 a0_0 a0_1 l0_2 l0_3).bind fun bt494 => ((impl_StateOf.f kj39 bt494.1 bt494.2.1 bt494.2.2.1 bt494.2.2.2 a1).bind fun bt502 => ((laws_eqUint64S.f kj39 bt502.1 t462).bind fun t506 => (if t506 = true then (laws_FnExactStateOf.j2 kj39 t492 t491 (bt502.2 != t465)) else (laws_FnExactStateOf.j2 kj39 t492 t491 true))))) else (some false))) = some true := H
         have A58 := Aside0.mk A580
         clear A580
         by_cases c59 : t493 < 0
         ·rw [if_pos c59] at H
          exact absurd H (by simp)
         ·rw [if_neg c59] at H
          have c59b0 : decide (t493 < 0) = false := decide_eq_false c59
          clear c59
          by_cases c62 : t493 = t491
          ·rw [if_pos c62] at H
           have c62b0 : (t493 == t491) = true := beq_iff_eq.mpr c62
           have c62b1 : (t493 != t491) = false := bne_eq_false_iff_eq.mpr c62
           clear c62
           replace H := Option.bind_eq_some_iff.mp H
           obtain ⟨⟨t494, t495, t496, t499⟩, A630, H⟩ := H
           replace H : ((impl_StateOf.f kj39 t494 t495 t496 t499 a1).bind fun bt502 => ((laws_eqUint64S.f kj39 bt502.1 t462).bind fun t506 => (if t506 = true then (laws_FnExactStateOf.j2 kj39 t492 t491 (bt502.2 != t465)) else (laws_FnExactStateOf.j2 kj39 t492 t491 true)))) = some true := H
           have A63 := Aside0.mk A630
           clear A630
           replace H := Option.bind_eq_some_iff.mp H
           obtain ⟨⟨t502, t505⟩, A640, H⟩ := H
           replace H : ((laws_eqUint64S.f kj39 t502 t462).bind fun t506 => (if t506 = true then (laws_FnExactStateOf.j2 kj39 t492 t491 (t505 != t465)) else (laws_FnExactStateOf.j2 kj39 t492 t491 true))) = some true := H
           have A64 := Aside0.mk A640
           clear A640
           have HC65 := Aside0.mk H
           clear H
           obtain ⟨Ao66, co66, eo66⟩ := Kd.R_slice HO_9.out
           subst eo66
           go_upto_region 25 with (first | ((with_reducible refine gate_callee (f := 21) rfl ?_); refine goesL_ (some 68) rfl rfl Try.func21 (by kernel_rfl) rfl #[.slice Ao66 t475.length co66, .int .i64 1] rfl qG ?_; (with_reducible refine (laws_markUint64S.calls kj39 (fun k_ => some k_ = (.slice Ao66 t475.length co66 : Value).ownBlock) (.slice Ao66 t475.length co66) t475 1 t491 t492 w _ ?side1 ?side2 A57.out).mono ?_); (case side1 => repeat (first | (with_reducible first | exact HB.out | apply below_alloc | apply pw_below_drewN | apply below_drew1 | refine below_set ?_ GE452.out) | exact HB.out)); (case side2 => exact Kd.R_tight rfl HO_9.out); rintro e w67 ⟨rfl, hy0, hb, hkp⟩; refine ⟨_, rfl, ?_⟩; have n0_ := Aside0.mk (Kd.R_mono (ok' := fun k_ => some k_ ≠ (.slice Ao66 t475.length co66 : Value).ownBlock) (Kd.R_keptB (HO_6.out) hkp (fun k_ hk_ hs_ => (hk_) hs_)) (fun k_ hk_ => hk_.1)); have n1_ := Aside0.mk (Kd.R_reok rfl hy0 (fun k_ e_ => HO_9.out.1 k_ e_)); have n2_ := Aside0.mk (blk_kept BK452.out hkp (fun hs_ => (fun e_ => (Kd.R_ne HO_9.out BK452.out (by decide)) e_) hs_)); have n3_ := Aside0.mk (hb); clear HO_6; clear HO_9; clear BK452; clear HB; have HO_6 := n0_; have HO_9 := n1_; have BK452 := n2_; have HB := n3_; clear n0_ n1_ n2_ n3_; (try clear hb); (try clear hkp); (try clear hy0)) | ((with_reducible refine gate_callee (f := 22) rfl ?_); refine goesL_ (some 71) rfl rfl Try.func22 (by kernel_rfl) rfl #[.slice Ao66 t492.length co66, .int .i64 1] rfl (by (try simp only [List.map_toArray, List.map_cons, List.map_nil]); first | done | (rw [show t492.length = t475.length from (Kd.R_reads' HO_9.out).1.symm] <;> rfl) | rfl | (simp only [List.length_drop, List.length_take]; rfl)) ?_; (with_reducible refine (laws_heldUint64S.calls kj39 _ _ t492 1 t493 _ ?side1 ?side2 A58.out).mono ?_); (case side1 => repeat (first | exact (Kd.R_reads' HO_9.out).2.2 | (with_reducible refine Kd.C_alloc ?_ _) | (with_reducible refine Kd.C_drewN ?_ _) | (with_reducible refine Kd.C_drew ?_))); (case side2 => rw [show t492.length = t475.length from (Kd.R_reads' HO_9.out).1.symm]; exact (Kd.R_reads' HO_9.out).2.1); rintro e w' ⟨rfl, ⟨nd, rfl⟩⟩; refine ⟨_, rfl, ?_⟩; have hcz68_0 : w67.cell? ⟨gb452, 0, none⟩ = some (.int .i64 a0_0) := (blk_cell BK452.out 0).trans rfl; have hcz68_1 : w67.cell? ⟨gb452, 1, none⟩ = some (.int .i64 a0_1) := (blk_cell BK452.out 1).trans rfl; have hcz68_2 : w67.cell? ⟨gb452, 2, none⟩ = some (.slice A0_2 l0_2.length c0_2) := (blk_cell BK452.out 2).trans rfl; have hcz68_3 : w67.cell? ⟨gb452, 3, none⟩ = some (.slice A0_3 l0_3.length c0_3) := (blk_cell BK452.out 3).trans rfl; have hfz68_0 := blk_frozen BK452.out 0; have hfz68_1 := blk_frozen BK452.out 1; have hfz68_2 := blk_frozen BK452.out 2; have hfz68_3 := blk_frozen BK452.out 3) | ((with_reducible refine gate_callee (f := 9) rfl ?_); refine goesL_ (some 79) rfl rfl Try.func9 (by kernel_rfl) rfl #[.agg #[.int .i64 a0_0, .int .i64 a0_1, .slice A0_2 l0_2.length c0_2, .slice A0_3 l0_3.length c0_3]] rfl qG ?_; (with_reducible refine (laws_toProgram.calls kj39 a0_0 a0_1 _ _ l0_2 _ _ l0_3 t494 t495 t496 t499 _ ?side1 ?side2 ?side3 ?side4 A63.out).mono ?_); (case side1 => repeat (first | exact (Kd.C_below HR0_2.out (qB)) | (with_reducible refine Kd.C_alloc ?_ _) | (with_reducible refine Kd.C_drewN ?_ _) | (with_reducible refine Kd.C_drew ?_))); (case side2 => exact HC0_2.out); (case side3 => repeat (first | exact (Kd.C_below HR0_3.out (qB)) | (with_reducible refine Kd.C_alloc ?_ _) | (with_reducible refine Kd.C_drewN ?_ _) | (with_reducible refine Kd.C_drew ?_))); (case side4 => exact HC0_3.out); rintro e w69 ⟨v497, v500, rfl, ho0, ho1, hb⟩; refine ⟨_, rfl, ?_⟩; have n0_ := Aside0.mk (Kd.R_below (qR HO_6.out) hb); have n1_ := Aside0.mk (Kd.R_below (qR HO_9.out) hb); have n2_ := Aside0.mk (Kd.R_lower ho0 (below_size (qB))); have n3_ := Aside0.mk (Kd.R_lower ho1 (below_size (qB))); have n4_ := Aside0.mk (blk_below (g := gb452) (o := .cells #[.int .i64 a0_0, .int .i64 a0_1, .slice A0_2 l0_2.length c0_2, .slice A0_3 l0_3.length c0_3] 25 (0, 0)) (qK BK452.out) hb); have n5_ := Aside0.mk (below_step (qB) hb); clear HO_6; clear HO_9; clear BK452; clear HB; have HO_6 := n0_; have HO_9 := n1_; have HO498 := n2_; have HO501 := n3_; have BK452 := n4_; have HB := n5_; clear n0_ n1_ n2_ n3_ n4_ n5_; (try clear hb); (try clear hb2); (try clear hk); (try clear hi); (try clear ho0); (try clear ho1); obtain ⟨Ao70, co70, eo70⟩ := Kd.R_slice HO498.out; subst eo70; obtain ⟨Ao71, co71, eo71⟩ := Kd.R_slice HO501.out; subst eo71) | ((with_reducible refine gate_callee (f := 19) rfl ?_); refine goesL_ (some 81) rfl rfl Try.func19 (by kernel_rfl) rfl #[.agg #[.int .i64 t494, .int .i64 t495, .slice Ao70 t496.length co70, .slice Ao71 t499.length co71], .int .i64 a1] rfl qG ?_; (with_reducible refine (impl_StateOf.calls kj39 t494 t495 _ _ t496 _ _ t499 a1 t502 t505 _ ?side1 ?side2 ?side3 ?side4 A64.out).mono ?_); (case side1 => repeat (first | exact (Kd.R_reads' HO498.out).2.2 | (with_reducible refine Kd.C_alloc ?_ _) | (with_reducible refine Kd.C_drewN ?_ _) | (with_reducible refine Kd.C_drew ?_))); (case side2 => exact (Kd.R_reads' HO498.out).2.1); (case side3 => repeat (first | exact (Kd.R_reads' HO501.out).2.2 | (with_reducible refine Kd.C_alloc ?_ _) | (with_reducible refine Kd.C_drewN ?_ _) | (with_reducible refine Kd.C_drew ?_))); (case side4 => exact (Kd.R_reads' HO501.out).2.1); rintro e w72 ⟨v503, rfl, ho0, hb⟩; refine ⟨_, rfl, ?_⟩; have n0_ := Aside0.mk (Kd.R_elder' (qR HO_6.out) (Kd.R_base ho0) hb); have n1_ := Aside0.mk (Kd.R_elder' (qR HO_9.out) (Kd.R_base ho0) hb); have n2_ := Aside0.mk (Kd.R_below (qR HO498.out) hb); have n3_ := Aside0.mk (Kd.R_below (qR HO501.out) hb); have n4_ := Aside0.mk (Kd.R_lower (Kd.R_new' (Kd.R_new' ho0 (Kd.R_lt (qR HO_6.out))) (Kd.R_lt (qR HO_9.out))) (below_size (qB))); have n5_ := Aside0.mk (blk_below (g := gb452) (o := .cells #[.int .i64 a0_0, .int .i64 a0_1, .slice A0_2 l0_2.length c0_2, .slice A0_3 l0_3.length c0_3] 25 (0, 0)) (qK BK452.out) hb); have n6_ := Aside0.mk (below_step (qB) hb); clear HO_6; clear HO_9; clear HO498; clear HO501; clear BK452; clear HB; have HO_6 := n0_; have HO_9 := n1_; have HO498 := n2_; have HO501 := n3_; have HO504 := n4_; have BK452 := n5_; have HB := n6_; clear n0_ n1_ n2_ n3_ n4_ n5_ n6_; (try clear hb); (try clear hb2); (try clear hk); (try clear hi); (try clear ho0)))
           (try simp only [Act.put, List.setIfInBounds_toArray, List.set_cons_zero, List.set_cons_succ])
           go_cut [92] (fun v92 wc => ∃ (kq : Nat) (x92_64 : Bool), v92 = .bool x92_64 ∧ Aside0 (laws_FnExactStateOf.j2 kq t492 t491 x92_64 = some true) ∧ Aside0 (kq ≤ kj39) ∧ Aside0 (Kd.R (Kd.int .u64) 66 wc w.heap.size (fun _ => True) (.slice Ao66 t475.length co66) t492) ∧ Aside0 (wc.heap[gb452]? = some (.cells #[.int .i64 a0_0, .int .i64 a0_1, (.slice A0_2 l0_2.length c0_2), (.slice A0_3 l0_3.length c0_3)] 25 (0, 0))) ∧ Aside0 (Below w.heap.size w wc))
           case first =>
            have H := HC65.out
            clear HC65
            replace H := Option.bind_eq_some_iff.mp H
            obtain ⟨t506, A730, H⟩ := H
            replace H : (if t506 = true then (laws_FnExactStateOf.j2 kj39 t492 t491 (t505 != t465)) else (laws_FnExactStateOf.j2 kj39 t492 t491 true)) = some true := H
            have A73 := Aside0.mk A730
            clear A730
            by_cases c74 : t506 = true
            ·subst c74
             have H1 : (laws_FnExactStateOf.j2 kj39 t492 t491 (t505 != t465)) = some true := by rw [if_pos rfl] at H; exact H
             clear H
             have H := H1
             clear H1
             have H' := Aside0.mk H
             clear H
             obtain ⟨Ao75, co75, eo75⟩ := Kd.R_slice HO504.out
             subst eo75
             obtain ⟨Ao76, co76, eo76⟩ := Kd.R_slice HO_6.out
             subst eo76
             go_wp2_with (first | ((with_reducible refine gate_callee (f := 17) rfl ?_); refine goesL_ (some 86) rfl rfl Try.func17 (by kernel_rfl) rfl #[.slice Ao75 t502.length co75, .slice Ao76 t462.length co76] rfl qG ?_; (with_reducible refine (laws_eqUint64S.calls kj39 _ _ t502 _ _ t462 true _ ?side1 ?side2 ?side3 ?side4 A73.out).mono ?_); (case side1 => repeat (first | exact (Kd.R_reads' HO504.out).2.2 | (with_reducible refine Kd.C_alloc ?_ _) | (with_reducible refine Kd.C_drewN ?_ _) | (with_reducible refine Kd.C_drew ?_))); (case side2 => exact (Kd.R_reads' HO504.out).2.1); (case side3 => repeat (first | exact (Kd.R_reads' HO_6.out).2.2 | (with_reducible refine Kd.C_alloc ?_ _) | (with_reducible refine Kd.C_drewN ?_ _) | (with_reducible refine Kd.C_drew ?_))); (case side4 => exact (Kd.R_reads' HO_6.out).2.1); rintro e w' ⟨rfl, ⟨nd, rfl⟩⟩; refine ⟨_, rfl, ?_⟩))
             go_meet
             case rel => exact ⟨_, ((t505 != t465)), qS, H', ⟨by have := HJ11.out; have := HJ39.out; first | omega | exact Nat.le_refl _⟩, ⟨by (with_reducible repeat (first | apply Kd.R_alloc | apply Kd.R_drewN | apply Kd.R_drew)); exact Kd.R_mono HO_9.out (fun _ hk => trivial)⟩, ⟨by exact qK BK452.out⟩, ⟨qB⟩⟩
            ·replace c74 := Bool.eq_false_iff.mpr c74
             subst c74
             have H1 : (laws_FnExactStateOf.j2 kj39 t492 t491 true) = some true := by rw [if_neg (show ¬ (false = true) by decide)] at H; exact H
             exact absurd H1 (by cases kj39 <;> simp [laws_FnExactStateOf.j2])
           case rest =>
            clear HC65
            try clear c1
            try clear c2
            try clear p2
            try clear c3
            try clear c4
            try clear c4b0
            try clear c5
            try clear c6
            try clear c7
            try clear c9
            try clear c11
            try clear c17
            try clear c18
            try clear c19
            try clear c20
            try clear c21
            try clear c22
            try clear c24
            try clear c30
            try clear c35
            try clear c38
            try clear c46
            try clear c49
            try clear c49b0
            try clear c51
            try clear c56
            try clear c59
            try clear c59b0
            try clear c62
            try clear c62b0
            try clear c62b1
            try clear c74
            try clear hcz14_0
            try clear hcz14_1
            try clear hcz14_2
            try clear hcz14_3
            try clear hcz16_0
            try clear hcz16_1
            try clear hcz16_2
            try clear hcz16_3
            try clear hcz21_0
            try clear hcz21_1
            try clear hcz21_2
            try clear hcz21_3
            try clear hcz25_0
            try clear hcz25_1
            try clear hcz25_2
            try clear hcz25_3
            try clear hcz47_0
            try clear hcz47_1
            try clear hcz47_2
            try clear hcz47_3
            try clear hcz68_0
            try clear hcz68_1
            try clear hcz68_2
            try clear hcz68_3
            try clear hcz6_0
            try clear hcz6_1
            try clear hcz6_2
            try clear hcz6_3
            try clear hfz14_0
            try clear hfz14_1
            try clear hfz14_2
            try clear hfz14_3
            try clear hfz16_0
            try clear hfz16_1
            try clear hfz16_2
            try clear hfz16_3
            try clear hfz21_0
            try clear hfz21_1
            try clear hfz21_2
            try clear hfz21_3
            try clear hfz25_0
            try clear hfz25_1
            try clear hfz25_2
            try clear hfz25_3
            try clear hfz47_0
            try clear hfz47_1
            try clear hfz47_2
            try clear hfz47_3
            try clear hfz68_0
            try clear hfz68_1
            try clear hfz68_2
            try clear hfz68_3
            try clear hfz6_0
            try clear hfz6_1
            try clear hfz6_2
            try clear hfz6_3
            try clear p2
            obtain ⟨kq, x92_64, rfl, HA, HJ64, HO_9, BK452, HB⟩ := hcut
            have hl9_64 := (Kd.R_reads' HO_9.out).1
            rw [hl9_64] at HO_9
            (try simp only [hl9_64])
            (try simp only [hl9_64] at BK452)
            cases kq with
            | zero => exact absurd HA.out (by simp [laws_FnExactStateOf.j2])
            | succ kj64 =>
             have H := HA.out
             clear HA
             simp only [laws_FnExactStateOf.j2] at H
             by_cases c79 : x92_64 = true
             ·subst c79
              have H1 : (some false) = some true := by rw [if_pos rfl] at H; exact H
              exact absurd H1 (by simp)
             ·replace c79 := Bool.eq_false_iff.mpr c79
              subst c79
              have H1 : ((laws_heldUint64S.f kj64 t492 1).bind fun t507 => (if t507 < 0 then (some false) else (if t507 = t491 then (some true) else (some false)))) = some true := by rw [if_neg (show ¬ (false = true) by decide)] at H; exact H
              clear H
              have H := H1
              clear H1
              replace H := Option.bind_eq_some_iff.mp H
              obtain ⟨t507, A800, H⟩ := H
              replace H : (if t507 < 0 then (some false) else (if t507 = t491 then (some true) else (some false))) = some true := H
              have A80 := Aside0.mk A800
              clear A800
              by_cases c81 : t507 < 0
              ·rw [if_pos c81] at H
               exact absurd H (by simp)
              ·rw [if_neg c81] at H
               have c81b0 : decide (t507 < 0) = false := decide_eq_false c81
               clear c81
               by_cases c82 : t507 = t491
               ·rw [if_pos c82] at H
                have c82b0 : (t507 == t491) = true := beq_iff_eq.mpr c82
                have c82b1 : (t507 != t491) = false := bne_eq_false_iff_eq.mpr c82
                clear c82
                go_wp2_with (first | ((with_reducible refine gate_callee (f := 22) rfl ?_); refine goesL_ (some 95) rfl rfl Try.func22 (by kernel_rfl) rfl #[.slice Ao66 t492.length co66, .int .i64 1] rfl qG ?_; (with_reducible refine (laws_heldUint64S.calls kj64 _ _ t492 1 t507 _ ?side1 ?side2 A80.out).mono ?_); (case side1 => repeat (first | exact (Kd.R_reads' HO_9.out).2.2 | (with_reducible refine Kd.C_alloc ?_ _) | (with_reducible refine Kd.C_drewN ?_ _) | (with_reducible refine Kd.C_drew ?_))); (case side2 => exact (Kd.R_reads' HO_9.out).2.1); rintro e w' ⟨rfl, ⟨nd, rfl⟩⟩; refine ⟨_, rfl, ?_⟩))
                go_ret
                exact ⟨qE, qB⟩
               ·rw [if_neg c82] at H
                exact absurd H (by simp)
          ·rw [if_neg c62] at H
           exact absurd H (by simp)
     ·replace c38 := Bool.eq_false_iff.mpr c38
      subst c38
      have H1 : (some false) = some true := by rw [if_neg (show ¬ (false = true) by decide)] at H; exact H
      exact absurd H1 (by simp)
/-- THE PURE STATEMENT of laws_FnExactStateOf. -/
def laws_FnExactStateOf.Pure : Prop := ∀ (a0_0 : Int) (a0_1 : Int) (l0_2 : List (S84)) (l0_3 : List (S77)) (a1 : Int), (Lit.int .i64 a0_0).wf = true → (Lit.int .i64 a0_1).wf = true → ((l0_2).length ≤ maxLen ∧ ∀ y ∈ l0_2, wf84 y) → ((l0_3).length ≤ maxLen ∧ ∀ y ∈ l0_3, wf77 y) → (Lit.int .i64 a1).wf = true → ∃ k, laws_FnExactStateOf.f k a0_0 a0_1 l0_2 l0_3 a1 = some true
theorem laws_FnExactStateOf.walk (P : laws_FnExactStateOf.Pure) (a0_0 : Int) (a0_1 : Int) (A0_2 : Option Addr) (c0_2 : Nat) (l0_2 : List (S84)) (A0_3 : Option Addr) (c0_3 : Nat) (l0_3 : List (S77)) (a1 : Int) (w : World) (hr0_2 : Kd.C k84 w A0_2 l0_2.length l0_2) (hc0_2 : l0_2.length ≤ c0_2) (hr0_3 : Kd.C k77 w A0_3 l0_3.length l0_3) (hc0_3 : l0_3.length ≤ c0_3) (w0_0 : (Lit.int .i64 a0_0).wf = true) (w0_1 : (Lit.int .i64 a0_1).wf = true) (w0_2 : ((l0_2).length ≤ maxLen ∧ ∀ y ∈ l0_2, wf84 y)) (w0_3 : ((l0_3).length ≤ maxLen ∧ ∀ y ∈ l0_3, wf77 y)) (w1 : (Lit.int .i64 a1).wf = true) :
  Calls Try.prog 6 #[.agg #[.int .i64 a0_0, .int .i64 a0_1, .slice A0_2 l0_2.length c0_2, .slice A0_3 l0_3.length c0_3], .int .i64 a1] w fun e w' => e = .returned (.bool true) ∧ Below w.heap.size w w' := by
 obtain ⟨k, h⟩ := P a0_0 a0_1 l0_2 l0_3 a1 w0_0 w0_1 w0_2 w0_3 w1
 refine (laws_FnExactStateOf.calls k a0_0 a0_1 A0_2 c0_2 l0_2 A0_3 c0_3 l0_3 a1 true w hr0_2 hc0_2 hr0_3 hc0_3 h).mono ?_
 rintro e w' ⟨rfl, hd⟩
 exact ⟨rfl, hd⟩

end Go.Proofs.Ytkebpfpkohehgaa.X
