/- Each Go function as a Lean function, with the proof that the call comes to just its answer; or a law's row out of its pure statement. Conditions: the arguments are of their kinds. Written by this session's program wip/xp/xp.sh. -/
import Derived.Test.YtkebpfpkohehgaaX0
import Derived.Test.YtkebpfpkohehgaaX1
import Derived.Test.YtkebpfpkohehgaaX10
import Derived.Test.YtkebpfpkohehgaaX24
import Derived.Test.YtkebpfpkohehgaaX29
import Derived.Test.YtkebpfpkohehgaaX32
import Derived.Test.YtkebpfpkohehgaaXO
namespace Go.Proofs.Ytkebpfpkohehgaa.X
open Go.RowKit Go.Proofs.YtkebpfpkohehgaaW.PrintWords Go.Proofs.YtkebpfpkohehgaaW.PrintLast Go.Proofs.YtkebpfpkohehgaaW.PrintMore
attribute [local go_sem] max2_int min2_int max_two min_two max_three min_three max_four min_four   -- for this text's walks alone
set_option linter.unusedVariables false
set_option linter.unusedSimpArgs false

/-! ### laws_FnExactStateNo: function 5 -/
def laws_FnExactStateNo.j0 : Nat → List Int → List Int → Bool → Int → Int → List (S84) → List (S77) → Int → Int → List (S82) → List (S54) → Option (Bool)
 | 0, _, _, _, _, _, _, _, _, _, _, _ => none
 | k + 1, x1, x9, x45, x377000, x377001, x377002, x377003, x400000, x400001, x400002, x400003 => if x45 = true then (some false) else ((laws_toProgram.f k x377000 x377001 x377002 x377003).bind fun bt405 => ((laws_eqProgram.f k x400000 x400001 x400002 x400003 bt405.1 bt405.2.1 bt405.2.2.1 bt405.2.2.2).bind fun t413 => (if t413 = true then ((laws_toUint64S.f k x1).bind fun t414 => ((laws_eqUint64S.f k x9 t414).bind fun t417 => (if t417 = true then (some true) else (some false)))) else (some false))))
def laws_FnExactStateNo.f (k : Nat) (a0_0 : Int) (a0_1 : Int) (l0_2 : List (S84)) (l0_3 : List (S77)) (l1 : List Int) : Option (Bool) := if (l1.length : Int) > 1048576 then (some true) else ((laws_szProgram.f k a0_0 a0_1 l0_2 l0_3 1048576).bind fun t377 => (if t377 < 0 then (some true) else ((laws_toProgram.f k a0_0 a0_1 l0_2 l0_3).bind fun bt378 => ((laws_toUint64S.f k l1).bind fun t386 => ((spec_StateNo.f k bt378.1 bt378.2.1 bt378.2.2.1 bt378.2.2.2 t386).bind fun bt389 => ((laws_toProgram.f k a0_0 a0_1 l0_2 l0_3).bind fun bt391 => ((laws_toUint64S.f k l1).bind fun t400 => ((impl_StateNo.f k bt391.1 bt391.2.1 bt391.2.2.1 bt391.2.2.2 t400).bind fun bt403 => (if bt403.1 = bt389.1 then (laws_FnExactStateNo.j0 k l1 t400 (bt403.2 != bt389.2) a0_0 a0_1 l0_2 l0_3 bt391.1 bt391.2.1 bt391.2.2.1 bt391.2.2.2) else (laws_FnExactStateNo.j0 k l1 t400 true a0_0 a0_1 l0_2 l0_3 bt391.1 bt391.2.1 bt391.2.2.1 bt391.2.2.2))))))))))
theorem laws_FnExactStateNo.mono_l : ∀ k, (∀ y0 y1 y2 y3 y4 y5 y6 y7 y8 y9 y10, LeO (laws_FnExactStateNo.j0 k y0 y1 y2 y3 y4 y5 y6 y7 y8 y9 y10) (laws_FnExactStateNo.j0 (k + 1) y0 y1 y2 y3 y4 y5 y6 y7 y8 y9 y10))
 | 0 => fun _ _ _ _ _ _ _ _ _ _ _ r h => by simp [laws_FnExactStateNo.j0] at h
 | k + 1 => by
  have ih0 := laws_FnExactStateNo.mono_l k
  ·intro y0 y1 y2 y3 y4 y5 y6 y7 y8 y9 y10
   unfold laws_FnExactStateNo.j0
   repeat' first
   | (with_reducible exact ih0 _ _ _ _ _ _ _ _ _ _ _)
   | (with_reducible exact impl_StateNo.mono _ _ _ _ _ _)
   | (with_reducible exact laws_eqProgram.mono _ _ _ _ _ _ _ _ _)
   | (with_reducible exact laws_eqUint64S.mono _ _ _)
   | (with_reducible exact laws_szProgram.mono _ _ _ _ _ _)
   | (with_reducible exact laws_toProgram.mono _ _ _ _ _)
   | (with_reducible exact laws_toUint64S.mono _ _)
   | (with_reducible exact spec_StateNo.mono _ _ _ _ _ _)
   | (with_reducible exact LeO.refl _)
   | (with_reducible exact LeO.none _)
   | (with_reducible refine LeO.ite ?_ ?_)
   | (with_reducible refine LeO.bind ?_ (fun _ => ?_))
   | exact ih0 _ _ _ _ _ _ _ _ _ _ _
   | exact impl_StateNo.mono _ _ _ _ _ _
   | exact laws_eqProgram.mono _ _ _ _ _ _ _ _ _
   | exact laws_eqUint64S.mono _ _ _
   | exact laws_szProgram.mono _ _ _ _ _ _
   | exact laws_toProgram.mono _ _ _ _ _
   | exact laws_toUint64S.mono _ _
   | exact spec_StateNo.mono _ _ _ _ _ _
   | exact LeO.none _
   | refine LeO.ite ?_ ?_
   | refine LeO.bind ?_ (fun _ => ?_)
theorem laws_FnExactStateNo.mono : ∀ a0 a1 a2 a3 a4 k, LeO (laws_FnExactStateNo.f k a0 a1 a2 a3 a4) (laws_FnExactStateNo.f (k + 1) a0 a1 a2 a3 a4) := by
 intro a0 a1 a2 a3 a4 k
 have ih0 := laws_FnExactStateNo.mono_l k
 unfold laws_FnExactStateNo.f
 repeat' first
   | (with_reducible exact ih0 _ _ _ _ _ _ _ _ _ _ _)
   | (with_reducible exact impl_StateNo.mono _ _ _ _ _ _)
   | (with_reducible exact laws_eqProgram.mono _ _ _ _ _ _ _ _ _)
   | (with_reducible exact laws_eqUint64S.mono _ _ _)
   | (with_reducible exact laws_szProgram.mono _ _ _ _ _ _)
   | (with_reducible exact laws_toProgram.mono _ _ _ _ _)
   | (with_reducible exact laws_toUint64S.mono _ _)
   | (with_reducible exact spec_StateNo.mono _ _ _ _ _ _)
   | (with_reducible exact LeO.refl _)
   | (with_reducible exact LeO.none _)
   | (with_reducible refine LeO.ite ?_ ?_)
   | (with_reducible refine LeO.bind ?_ (fun _ => ?_))
   | exact ih0 _ _ _ _ _ _ _ _ _ _ _
   | exact impl_StateNo.mono _ _ _ _ _ _
   | exact laws_eqProgram.mono _ _ _ _ _ _ _ _ _
   | exact laws_eqUint64S.mono _ _ _
   | exact laws_szProgram.mono _ _ _ _ _ _
   | exact laws_toProgram.mono _ _ _ _ _
   | exact laws_toUint64S.mono _ _
   | exact spec_StateNo.mono _ _ _ _ _ _
   | exact LeO.none _
   | refine LeO.ite ?_ ?_
   | refine LeO.bind ?_ (fun _ => ?_)
set_option maxHeartbeats 8000000 in
set_option maxRecDepth 100000 in
theorem laws_FnExactStateNo.calls (k : Nat) (a0_0 : Int) (a0_1 : Int) (A0_2 : Option Addr) (c0_2 : Nat) (l0_2 : List (S84)) (A0_3 : Option Addr) (c0_3 : Nat) (l0_3 : List (S77)) (A1 : Option Addr) (c1 : Nat) (l1 : List Int) (r : Bool) (w : World) (hr0_2 : Kd.C k84 w A0_2 l0_2.length l0_2) (hc0_2 : l0_2.length ≤ c0_2) (hr0_3 : Kd.C k77 w A0_3 l0_3.length l0_3) (hc0_3 : l0_3.length ≤ c0_3) (hr1 : Kd.C (Kd.int .u64) w A1 l1.length l1) (hc1 : l1.length ≤ c1) (h : laws_FnExactStateNo.f k a0_0 a0_1 l0_2 l0_3 l1 = some r) :
  Calls Try.prog 5 #[.agg #[.int .i64 a0_0, .int .i64 a0_1, .slice A0_2 l0_2.length c0_2, .slice A0_3 l0_3.length c0_3], .slice A1 l1.length c1] w fun e w' => e = .returned (.bool r) ∧ Below w.heap.size w w' := by
 have hu25 := Try.underlying25
 have hu31 := Try.underlying31
 have HR0_2 := Aside0.mk hr0_2
 have HC0_2 := Aside0.mk hc0_2
 clear hr0_2 hc0_2
 have HR0_3 := Aside0.mk hr0_3
 have HC0_3 := Aside0.mk hc0_3
 clear hr0_3 hc0_3
 have HR1 := Aside0.mk hr1
 have HC1 := Aside0.mk hc1
 clear hr1 hc1
 have HB := Aside0.mk (Below.refl w.heap.size w)
 have H : (if (l1.length : Int) > 1048576 then (some true) else ((laws_szProgram.f k a0_0 a0_1 l0_2 l0_3 1048576).bind fun t377 => (if t377 < 0 then (some true) else ((laws_toProgram.f k a0_0 a0_1 l0_2 l0_3).bind fun bt378 => ((laws_toUint64S.f k l1).bind fun t386 => ((spec_StateNo.f k bt378.1 bt378.2.1 bt378.2.2.1 bt378.2.2.2 t386).bind fun bt389 => ((laws_toProgram.f k a0_0 a0_1 l0_2 l0_3).bind fun bt391 => ((laws_toUint64S.f k l1).bind fun t400 => ((impl_StateNo.f k bt391.1 bt391.2.1 bt391.2.2.1 bt391.2.2.2 t400).bind fun bt403 => (if bt403.1 = bt389.1 then (laws_FnExactStateNo.j0 k l1 t400 (bt403.2 != bt389.2) a0_0 a0_1 l0_2 l0_3 bt391.1 bt391.2.1 bt391.2.2.1 bt391.2.2.2) else (laws_FnExactStateNo.j0 k l1 t400 true a0_0 a0_1 l0_2 l0_3 bt391.1 bt391.2.1 bt391.2.2.1 bt391.2.2.2))))))))))) = some r := h
 clear h
 by_cases c3 : (l1.length : Int) > 1048576
 ·rw [if_pos c3] at H
  have c3b0 : decide (1048576 < (l1.length : Int)) = true := decide_eq_true c3
  have c3b1 : decide (1048576 < l1.length) = true := decide_eq_true (by omega)
  clear c3
  obtain rfl := Option.some.inj H
  go_enter Try.func5, Try.ntmps5
  go_wp2_with (first | ((with_reducible refine gate_dst (N := 2) rfl ?_); refine box_event ?hg (N := 2) ?hd (cs := #[.int .i64 a0_0, .int .i64 a0_1, .slice A0_2 l0_2.length c0_2, .slice A0_3 l0_3.length c0_3]) (t := 25) ?hr ?_; (case hd => rfl); (case hg => rfl); (case hr => first | (go_simp; done) | (go_simp; rfl)); intro gb376 hg w4 hbox hb; have n0_ := Aside0.mk (below_step (qB) hb); have n1_ := Aside0.mk (hbox); have n2_ := Aside0.mk ((by rw [hg]; exact (below_size (qB)) : w.heap.size ≤ gb376)); have n3_ := Aside0.mk ((by rw [hg]; exact (below_size (qB)) : w.heap.size ≤ gb376)); clear HB; have HB := n0_; have BK376 := n1_; have GW376 := n2_; have GE376 := n3_; clear n0_ n1_ n2_ n3_; clear hb hbox hg))
  go_ret
  exact ⟨qE, qB⟩
 ·rw [if_neg c3] at H
  have c3b0 : decide (1048576 < (l1.length : Int)) = false := decide_eq_false c3
  have c3b1 : decide (1048576 < l1.length) = false := decide_eq_false (by omega)
  clear c3
  replace H := Option.bind_eq_some_iff.mp H
  obtain ⟨t377, A50, H⟩ := H
  replace H : (if t377 < 0 then (some true) else ((laws_toProgram.f k a0_0 a0_1 l0_2 l0_3).bind fun bt378 => ((laws_toUint64S.f k l1).bind fun t386 => ((spec_StateNo.f k bt378.1 bt378.2.1 bt378.2.2.1 bt378.2.2.2 t386).bind fun bt389 => ((laws_toProgram.f k a0_0 a0_1 l0_2 l0_3).bind fun bt391 => ((laws_toUint64S.f k l1).bind fun t400 => ((impl_StateNo.f k bt391.1 bt391.2.1 bt391.2.2.1 bt391.2.2.2 t400).bind fun bt403 => (if bt403.1 = bt389.1 then (laws_FnExactStateNo.j0 k l1 t400 (bt403.2 != bt389.2) a0_0 a0_1 l0_2 l0_3 bt391.1 bt391.2.1 bt391.2.2.1 bt391.2.2.2) else (laws_FnExactStateNo.j0 k l1 t400 true a0_0 a0_1 l0_2 l0_3 bt391.1 bt391.2.1 bt391.2.2.1 bt391.2.2.2))))))))) = some r := H
  have A5 := Aside0.mk A50
  clear A50
  by_cases c6 : t377 < 0
  ·rw [if_pos c6] at H
   have c6b0 : decide (t377 < 0) = true := decide_eq_true c6
   clear c6
   obtain rfl := Option.some.inj H
   go_enter Try.func5, Try.ntmps5
   go_wp2_with (first | ((with_reducible refine gate_dst (N := 2) rfl ?_); refine box_event ?hg (N := 2) ?hd (cs := #[.int .i64 a0_0, .int .i64 a0_1, .slice A0_2 l0_2.length c0_2, .slice A0_3 l0_3.length c0_3]) (t := 25) ?hr ?_; (case hd => rfl); (case hg => rfl); (case hr => first | (go_simp; done) | (go_simp; rfl)); intro gb376 hg w7 hbox hb; have n0_ := Aside0.mk (below_step (qB) hb); have n1_ := Aside0.mk (hbox); have n2_ := Aside0.mk ((by rw [hg]; exact (below_size (qB)) : w.heap.size ≤ gb376)); have n3_ := Aside0.mk ((by rw [hg]; exact (below_size (qB)) : w.heap.size ≤ gb376)); clear HB; have HB := n0_; have BK376 := n1_; have GW376 := n2_; have GE376 := n3_; clear n0_ n1_ n2_ n3_; clear hb hbox hg; have hcz8_0 : w7.cell? ⟨gb376, 0, none⟩ = some (.int .i64 a0_0) := (blk_cell BK376.out 0).trans rfl; have hcz8_1 : w7.cell? ⟨gb376, 1, none⟩ = some (.int .i64 a0_1) := (blk_cell BK376.out 1).trans rfl; have hcz8_2 : w7.cell? ⟨gb376, 2, none⟩ = some (.slice A0_2 l0_2.length c0_2) := (blk_cell BK376.out 2).trans rfl; have hcz8_3 : w7.cell? ⟨gb376, 3, none⟩ = some (.slice A0_3 l0_3.length c0_3) := (blk_cell BK376.out 3).trans rfl; have hfz8_0 := blk_frozen BK376.out 0; have hfz8_1 := blk_frozen BK376.out 1; have hfz8_2 := blk_frozen BK376.out 2; have hfz8_3 := blk_frozen BK376.out 3) | ((with_reducible refine gate_callee (f := 7) rfl ?_); refine goesL_ (some 17) rfl rfl Try.func7 (by kernel_rfl) rfl #[.agg #[.int .i64 a0_0, .int .i64 a0_1, .slice A0_2 l0_2.length c0_2, .slice A0_3 l0_3.length c0_3], .int .i64 1048576] rfl qG ?_; (with_reducible refine (laws_szProgram.calls k a0_0 a0_1 _ _ l0_2 _ _ l0_3 1048576 t377 _ ?side1 ?side2 ?side3 ?side4 A5.out).mono ?_); (case side1 => exact qC (Kd.C_below HR0_2.out HB.out)); (case side2 => exact HC0_2.out); (case side3 => exact qC (Kd.C_below HR0_3.out HB.out)); (case side4 => exact HC0_3.out); rintro e w9 ⟨rfl, hb⟩; refine ⟨_, rfl, ?_⟩; have n0_ := Aside0.mk (blk_below (g := gb376) (o := .cells #[.int .i64 a0_0, .int .i64 a0_1, .slice A0_2 l0_2.length c0_2, .slice A0_3 l0_3.length c0_3] 25 (0, 0)) (qK BK376.out) hb); have n1_ := Aside0.mk (below_step (qB) hb); clear BK376; clear HB; have BK376 := n0_; have HB := n1_; clear n0_ n1_; (try clear hb); (try clear hb2); (try clear hk); (try clear hi)))
   go_ret
   exact ⟨qE, qB⟩
  ·rw [if_neg c6] at H
   have c6b0 : decide (t377 < 0) = false := decide_eq_false c6
   clear c6
   replace H := Option.bind_eq_some_iff.mp H
   obtain ⟨⟨t378, t379, t380, t383⟩, A100, H⟩ := H
   replace H : ((laws_toUint64S.f k l1).bind fun t386 => ((spec_StateNo.f k t378 t379 t380 t383 t386).bind fun bt389 => ((laws_toProgram.f k a0_0 a0_1 l0_2 l0_3).bind fun bt391 => ((laws_toUint64S.f k l1).bind fun t400 => ((impl_StateNo.f k bt391.1 bt391.2.1 bt391.2.2.1 bt391.2.2.2 t400).bind fun bt403 => (if bt403.1 = bt389.1 then (laws_FnExactStateNo.j0 k l1 t400 (bt403.2 != bt389.2) a0_0 a0_1 l0_2 l0_3 bt391.1 bt391.2.1 bt391.2.2.1 bt391.2.2.2) else (laws_FnExactStateNo.j0 k l1 t400 true a0_0 a0_1 l0_2 l0_3 bt391.1 bt391.2.1 bt391.2.2.1 bt391.2.2.2))))))) = some r := H
   have A10 := Aside0.mk A100
   clear A100
   replace H := Option.bind_eq_some_iff.mp H
   obtain ⟨t386, A110, H⟩ := H
   replace H : ((spec_StateNo.f k t378 t379 t380 t383 t386).bind fun bt389 => ((laws_toProgram.f k a0_0 a0_1 l0_2 l0_3).bind fun bt391 => ((laws_toUint64S.f k l1).bind fun t400 => ((impl_StateNo.f k bt391.1 bt391.2.1 bt391.2.2.1 bt391.2.2.2 t400).bind fun bt403 => (if bt403.1 = bt389.1 then (laws_FnExactStateNo.j0 k l1 t400 (bt403.2 != bt389.2) a0_0 a0_1 l0_2 l0_3 bt391.1 bt391.2.1 bt391.2.2.1 bt391.2.2.2) else (laws_FnExactStateNo.j0 k l1 t400 true a0_0 a0_1 l0_2 l0_3 bt391.1 bt391.2.1 bt391.2.2.1 bt391.2.2.2)))))) = some r := H
   have A11 := Aside0.mk A110
   clear A110
   replace H := Option.bind_eq_some_iff.mp H
   obtain ⟨⟨t389, t390⟩, A120, H⟩ := H
   replace H : ((laws_toProgram.f k a0_0 a0_1 l0_2 l0_3).bind fun bt391 => ((laws_toUint64S.f k l1).bind fun t400 => ((impl_StateNo.f k bt391.1 bt391.2.1 bt391.2.2.1 bt391.2.2.2 t400).bind fun bt403 => (if bt403.1 = t389 then (laws_FnExactStateNo.j0 k l1 t400 (bt403.2 != t390) a0_0 a0_1 l0_2 l0_3 bt391.1 bt391.2.1 bt391.2.2.1 bt391.2.2.2) else (laws_FnExactStateNo.j0 k l1 t400 true a0_0 a0_1 l0_2 l0_3 bt391.1 bt391.2.1 bt391.2.2.1 bt391.2.2.2))))) = some r := H
   have A12 := Aside0.mk A120
   clear A120
   replace H := Option.bind_eq_some_iff.mp H
   obtain ⟨⟨t391, t392, t393, t396⟩, A130, H⟩ := H
   replace H : ((laws_toUint64S.f k l1).bind fun t400 => ((impl_StateNo.f k t391 t392 t393 t396 t400).bind fun bt403 => (if bt403.1 = t389 then (laws_FnExactStateNo.j0 k l1 t400 (bt403.2 != t390) a0_0 a0_1 l0_2 l0_3 t391 t392 t393 t396) else (laws_FnExactStateNo.j0 k l1 t400 true a0_0 a0_1 l0_2 l0_3 t391 t392 t393 t396)))) = some r := H
   have A13 := Aside0.mk A130
   clear A130
   replace H := Option.bind_eq_some_iff.mp H
   obtain ⟨t400, A140, H⟩ := H
   replace H : ((impl_StateNo.f k t391 t392 t393 t396 t400).bind fun bt403 => (if bt403.1 = t389 then (laws_FnExactStateNo.j0 k l1 t400 (bt403.2 != t390) a0_0 a0_1 l0_2 l0_3 t391 t392 t393 t396) else (laws_FnExactStateNo.j0 k l1 t400 true a0_0 a0_1 l0_2 l0_3 t391 t392 t393 t396))) = some r := H
   have A14 := Aside0.mk A140
   clear A140
   replace H := Option.bind_eq_some_iff.mp H
   obtain ⟨⟨t403, t404⟩, A150, H⟩ := H
   replace H : (if t403 = t389 then (laws_FnExactStateNo.j0 k l1 t400 (t404 != t390) a0_0 a0_1 l0_2 l0_3 t391 t392 t393 t396) else (laws_FnExactStateNo.j0 k l1 t400 true a0_0 a0_1 l0_2 l0_3 t391 t392 t393 t396)) = some r := H
   have A15 := Aside0.mk A150
   clear A150
   have HC16 := Aside0.mk H
   clear H
   go_enter Try.func5, Try.ntmps5
   go_upto_region 11 with (first | ((with_reducible refine gate_dst (N := 2) rfl ?_); refine box_event ?hg (N := 2) ?hd (cs := #[.int .i64 a0_0, .int .i64 a0_1, .slice A0_2 l0_2.length c0_2, .slice A0_3 l0_3.length c0_3]) (t := 25) ?hr ?_; (case hd => rfl); (case hg => rfl); (case hr => first | (go_simp; done) | (go_simp; rfl)); intro gb376 hg w17 hbox hb; have n0_ := Aside0.mk (below_step (qB) hb); have n1_ := Aside0.mk (hbox); have n2_ := Aside0.mk ((by rw [hg]; exact (below_size (qB)) : w.heap.size ≤ gb376)); have n3_ := Aside0.mk ((by rw [hg]; exact (below_size (qB)) : w.heap.size ≤ gb376)); clear HB; have HB := n0_; have BK376 := n1_; have GW376 := n2_; have GE376 := n3_; clear n0_ n1_ n2_ n3_; clear hb hbox hg; have hcz18_0 : w17.cell? ⟨gb376, 0, none⟩ = some (.int .i64 a0_0) := (blk_cell BK376.out 0).trans rfl; have hcz18_1 : w17.cell? ⟨gb376, 1, none⟩ = some (.int .i64 a0_1) := (blk_cell BK376.out 1).trans rfl; have hcz18_2 : w17.cell? ⟨gb376, 2, none⟩ = some (.slice A0_2 l0_2.length c0_2) := (blk_cell BK376.out 2).trans rfl; have hcz18_3 : w17.cell? ⟨gb376, 3, none⟩ = some (.slice A0_3 l0_3.length c0_3) := (blk_cell BK376.out 3).trans rfl; have hfz18_0 := blk_frozen BK376.out 0; have hfz18_1 := blk_frozen BK376.out 1; have hfz18_2 := blk_frozen BK376.out 2; have hfz18_3 := blk_frozen BK376.out 3) | ((with_reducible refine gate_callee (f := 7) rfl ?_); refine goesL_ (some 17) rfl rfl Try.func7 (by kernel_rfl) rfl #[.agg #[.int .i64 a0_0, .int .i64 a0_1, .slice A0_2 l0_2.length c0_2, .slice A0_3 l0_3.length c0_3], .int .i64 1048576] rfl qG ?_; (with_reducible refine (laws_szProgram.calls k a0_0 a0_1 _ _ l0_2 _ _ l0_3 1048576 t377 _ ?side1 ?side2 ?side3 ?side4 A5.out).mono ?_); (case side1 => exact qC (Kd.C_below HR0_2.out HB.out)); (case side2 => exact HC0_2.out); (case side3 => exact qC (Kd.C_below HR0_3.out HB.out)); (case side4 => exact HC0_3.out); rintro e w19 ⟨rfl, hb⟩; refine ⟨_, rfl, ?_⟩; have n0_ := Aside0.mk (blk_below (g := gb376) (o := .cells #[.int .i64 a0_0, .int .i64 a0_1, .slice A0_2 l0_2.length c0_2, .slice A0_3 l0_3.length c0_3] 25 (0, 0)) (qK BK376.out) hb); have n1_ := Aside0.mk (below_step (qB) hb); clear BK376; clear HB; have BK376 := n0_; have HB := n1_; clear n0_ n1_; (try clear hb); (try clear hb2); (try clear hk); (try clear hi); have hcz20_0 : w19.cell? ⟨gb376, 0, none⟩ = some (.int .i64 a0_0) := (blk_cell BK376.out 0).trans rfl; have hcz20_1 : w19.cell? ⟨gb376, 1, none⟩ = some (.int .i64 a0_1) := (blk_cell BK376.out 1).trans rfl; have hcz20_2 : w19.cell? ⟨gb376, 2, none⟩ = some (.slice A0_2 l0_2.length c0_2) := (blk_cell BK376.out 2).trans rfl; have hcz20_3 : w19.cell? ⟨gb376, 3, none⟩ = some (.slice A0_3 l0_3.length c0_3) := (blk_cell BK376.out 3).trans rfl; have hfz20_0 := blk_frozen BK376.out 0; have hfz20_1 := blk_frozen BK376.out 1; have hfz20_2 := blk_frozen BK376.out 2; have hfz20_3 := blk_frozen BK376.out 3) | ((with_reducible refine gate_callee (f := 9) rfl ?_); refine goesL_ (some 22) rfl rfl Try.func9 (by kernel_rfl) rfl #[.agg #[.int .i64 a0_0, .int .i64 a0_1, .slice A0_2 l0_2.length c0_2, .slice A0_3 l0_3.length c0_3]] rfl qG ?_; (with_reducible refine (laws_toProgram.calls k a0_0 a0_1 _ _ l0_2 _ _ l0_3 t378 t379 t380 t383 _ ?side1 ?side2 ?side3 ?side4 A10.out).mono ?_); (case side1 => exact qC (Kd.C_below HR0_2.out HB.out)); (case side2 => exact HC0_2.out); (case side3 => exact qC (Kd.C_below HR0_3.out HB.out)); (case side4 => exact HC0_3.out); rintro e w21 ⟨v381, v384, rfl, ho0, ho1, hb⟩; refine ⟨_, rfl, ?_⟩; have n0_ := Aside0.mk (Kd.R_lower ho0 (below_size (qB))); have n1_ := Aside0.mk (Kd.R_lower ho1 (below_size (qB))); have n2_ := Aside0.mk (blk_below (g := gb376) (o := .cells #[.int .i64 a0_0, .int .i64 a0_1, .slice A0_2 l0_2.length c0_2, .slice A0_3 l0_3.length c0_3] 25 (0, 0)) (qK BK376.out) hb); have n3_ := Aside0.mk (below_step (qB) hb); clear BK376; clear HB; have HO382 := n0_; have HO385 := n1_; have BK376 := n2_; have HB := n3_; clear n0_ n1_ n2_ n3_; (try clear hb); (try clear hb2); (try clear hk); (try clear hi); (try clear ho0); (try clear ho1)) | ((with_reducible refine gate_callee (f := 15) rfl ?_); refine goesL_ (some 24) rfl rfl Try.func15 (by kernel_rfl) rfl #[.slice A1 l1.length c1] rfl qG ?_; (with_reducible refine (laws_toUint64S.calls k _ _ l1 t386 _ ?side1 ?side2 A11.out).mono ?_); (case side1 => exact qC (Kd.C_below HR1.out HB.out)); (case side2 => exact HC1.out); rintro e w22 ⟨v387, rfl, ho0, hb⟩; refine ⟨_, rfl, ?_⟩; have n0_ := Aside0.mk (Kd.R_below (qR HO382.out) hb); have n1_ := Aside0.mk (Kd.R_below (qR HO385.out) hb); have n2_ := Aside0.mk (Kd.R_lower ho0 (below_size (qB))); have n3_ := Aside0.mk (blk_below (g := gb376) (o := .cells #[.int .i64 a0_0, .int .i64 a0_1, .slice A0_2 l0_2.length c0_2, .slice A0_3 l0_3.length c0_3] 25 (0, 0)) (qK BK376.out) hb); have n4_ := Aside0.mk (below_step (qB) hb); clear HO382; clear HO385; clear BK376; clear HB; have HO382 := n0_; have HO385 := n1_; have HO388 := n2_; have BK376 := n3_; have HB := n4_; clear n0_ n1_ n2_ n3_ n4_; (try clear hb); (try clear hb2); (try clear hk); (try clear hi); (try clear ho0); obtain ⟨Ao23, co23, eo23⟩ := Kd.R_slice HO382.out; subst eo23; obtain ⟨Ao24, co24, eo24⟩ := Kd.R_slice HO385.out; subst eo24; obtain ⟨Ao25, co25, eo25⟩ := Kd.R_slice HO388.out; subst eo25) | ((with_reducible refine gate_callee (f := 14) rfl ?_); refine goesL_ (some 25) rfl rfl Try.func14 (by kernel_rfl) rfl #[.agg #[.int .i64 t378, .int .i64 t379, .slice Ao23 t380.length co23, .slice Ao24 t383.length co24], .slice Ao25 t386.length co25] rfl qG ?_; (with_reducible refine (spec_StateNo.calls k t378 t379 _ _ t380 _ _ t383 _ _ t386 t389 t390 _ ?side1 ?side2 ?side3 ?side4 ?side5 ?side6 A12.out).mono ?_); (case side1 => repeat (first | exact (Kd.R_reads' HO382.out).2.2 | (with_reducible refine Kd.C_alloc ?_ _) | (with_reducible refine Kd.C_drewN ?_ _) | (with_reducible refine Kd.C_drew ?_))); (case side2 => exact (Kd.R_reads' HO382.out).2.1); (case side3 => repeat (first | exact (Kd.R_reads' HO385.out).2.2 | (with_reducible refine Kd.C_alloc ?_ _) | (with_reducible refine Kd.C_drewN ?_ _) | (with_reducible refine Kd.C_drew ?_))); (case side4 => exact (Kd.R_reads' HO385.out).2.1); (case side5 => repeat (first | exact (Kd.R_reads' HO388.out).2.2 | (with_reducible refine Kd.C_alloc ?_ _) | (with_reducible refine Kd.C_drewN ?_ _) | (with_reducible refine Kd.C_drew ?_))); (case side6 => exact (Kd.R_reads' HO388.out).2.1); rintro e w26 ⟨rfl, hb⟩; refine ⟨_, rfl, ?_⟩; have n0_ := Aside0.mk (Kd.R_below (qR HO382.out) hb); have n1_ := Aside0.mk (Kd.R_below (qR HO385.out) hb); have n2_ := Aside0.mk (Kd.R_below (qR HO388.out) hb); have n3_ := Aside0.mk (blk_below (g := gb376) (o := .cells #[.int .i64 a0_0, .int .i64 a0_1, .slice A0_2 l0_2.length c0_2, .slice A0_3 l0_3.length c0_3] 25 (0, 0)) (qK BK376.out) hb); have n4_ := Aside0.mk (below_step (qB) hb); clear HO382; clear HO385; clear HO388; clear BK376; clear HB; have HO382 := n0_; have HO385 := n1_; have HO388 := n2_; have BK376 := n3_; have HB := n4_; clear n0_ n1_ n2_ n3_ n4_; (try clear hb); (try clear hb2); (try clear hk); (try clear hi); have hcz27_0 : w26.cell? ⟨gb376, 0, none⟩ = some (.int .i64 a0_0) := (blk_cell BK376.out 0).trans rfl; have hcz27_1 : w26.cell? ⟨gb376, 1, none⟩ = some (.int .i64 a0_1) := (blk_cell BK376.out 1).trans rfl; have hcz27_2 : w26.cell? ⟨gb376, 2, none⟩ = some (.slice A0_2 l0_2.length c0_2) := (blk_cell BK376.out 2).trans rfl; have hcz27_3 : w26.cell? ⟨gb376, 3, none⟩ = some (.slice A0_3 l0_3.length c0_3) := (blk_cell BK376.out 3).trans rfl; have hfz27_0 := blk_frozen BK376.out 0; have hfz27_1 := blk_frozen BK376.out 1; have hfz27_2 := blk_frozen BK376.out 2; have hfz27_3 := blk_frozen BK376.out 3) | ((with_reducible refine gate_callee (f := 9) rfl ?_); refine goesL_ (some 29) rfl rfl Try.func9 (by kernel_rfl) rfl #[.agg #[.int .i64 a0_0, .int .i64 a0_1, .slice A0_2 l0_2.length c0_2, .slice A0_3 l0_3.length c0_3]] rfl qG ?_; (with_reducible refine (laws_toProgram.calls k a0_0 a0_1 _ _ l0_2 _ _ l0_3 t391 t392 t393 t396 _ ?side1 ?side2 ?side3 ?side4 A13.out).mono ?_); (case side1 => exact qC (Kd.C_below HR0_2.out HB.out)); (case side2 => exact HC0_2.out); (case side3 => exact qC (Kd.C_below HR0_3.out HB.out)); (case side4 => exact HC0_3.out); rintro e w28 ⟨v394, v397, rfl, ho0, ho1, hb⟩; refine ⟨_, rfl, ?_⟩; have n0_ := Aside0.mk (Kd.R_elder' (qR HO382.out) (Kd.R_base ho0) hb); have n1_ := Aside0.mk (Kd.R_mono (Kd.R_told (Kd.R_told (Kd.R_old (qR HO385.out) hb) (Kd.R_base ho0)) (Kd.R_base ho1)) (fun _ h_ => h_.1)); have n2_ := Aside0.mk (Kd.R_below (qR HO388.out) hb); have n3_ := Aside0.mk (Kd.R_lower (Kd.R_new' ho0 (Kd.R_lt (qR HO382.out))) (below_size (qB))); have n4_ := Aside0.mk (Kd.R_lower (Kd.R_new' (Kd.R_new' ho1 (Kd.R_lt (qR HO382.out))) (Kd.R_lt (qR HO385.out))) (below_size (qB))); have n5_ := Aside0.mk (blk_below (g := gb376) (o := .cells #[.int .i64 a0_0, .int .i64 a0_1, .slice A0_2 l0_2.length c0_2, .slice A0_3 l0_3.length c0_3] 25 (0, 0)) (qK BK376.out) hb); have n6_ := Aside0.mk (below_step (qB) hb); clear HO382; clear HO385; clear HO388; clear BK376; clear HB; have HO382 := n0_; have HO385 := n1_; have HO388 := n2_; have HO395 := n3_; have HO398 := n4_; have BK376 := n5_; have HB := n6_; clear n0_ n1_ n2_ n3_ n4_ n5_ n6_; (try clear hb); (try clear hb2); (try clear hk); (try clear hi); (try clear ho0); (try clear ho1)) | ((with_reducible refine gate_dst (N := 8) rfl ?_); refine box_event ?hg (N := 8) ?hd (cs := #[.int .i64 0, .int .i64 0, .slice none 0 0, .slice none 0 0]) (t := 31) ?hr ?_; (case hd => rfl); (case hg => rfl); (case hr => first | (go_simp; done) | (go_simp; rfl)); intro gb399 hg w29 hbox hb; have n0_ := Aside0.mk (Kd.R_below (qR HO382.out) hb); have n1_ := Aside0.mk (Kd.R_below (qR HO385.out) hb); have n2_ := Aside0.mk (Kd.R_below (qR HO388.out) hb); have n3_ := Aside0.mk (Kd.R_below (qR HO395.out) hb); have n4_ := Aside0.mk (Kd.R_below (qR HO398.out) hb); have n5_ := Aside0.mk (blk_below (g := gb376) (o := .cells #[.int .i64 a0_0, .int .i64 a0_1, .slice A0_2 l0_2.length c0_2, .slice A0_3 l0_3.length c0_3] 25 (0, 0)) (qK BK376.out) hb); have n6_ := Aside0.mk (below_step (qB) hb); have n7_ := Aside0.mk (hbox); have n8_ := Aside0.mk ((by rw [hg]; exact (below_size (qB)) : w.heap.size ≤ gb399)); have n9_ := Aside0.mk ((by rw [hg]; exact (below_size (qB)) : w.heap.size ≤ gb399)); have n10_ := Aside0.mk ((by rw [hg]; exact Nat.ne_of_lt (blk_lt (g := gb376) (o := .cells #[.int .i64 a0_0, .int .i64 a0_1, .slice A0_2 l0_2.length c0_2, .slice A0_3 l0_3.length c0_3] 25 (0, 0)) (qK BK376.out)) : gb376 ≠ gb399)); have n11_ := Aside0.mk ((by rw [hg]; exact Nat.ne_of_gt (blk_lt (g := gb376) (o := .cells #[.int .i64 a0_0, .int .i64 a0_1, .slice A0_2 l0_2.length c0_2, .slice A0_3 l0_3.length c0_3] 25 (0, 0)) (qK BK376.out)) : gb399 ≠ gb376)); clear HO382; clear HO385; clear HO388; clear HO395; clear HO398; clear BK376; clear HB; have HO382 := n0_; have HO385 := n1_; have HO388 := n2_; have HO395 := n3_; have HO398 := n4_; have BK376 := n5_; have HB := n6_; have BK399 := n7_; have GW399 := n8_; have GE399 := n9_; have NB376_399 := n10_; have NB399_376 := n11_; clear n0_ n1_ n2_ n3_ n4_ n5_ n6_ n7_ n8_ n9_ n10_ n11_; clear hb hbox hg; have hnb30 := NB399_376.out; have hnc30 := NB376_399.out; have hcz31_0 : w29.cell? ⟨gb399, 0, none⟩ = some (.int .i64 0) := (blk_cell BK399.out 0).trans rfl; have hcz31_1 : w29.cell? ⟨gb399, 1, none⟩ = some (.int .i64 0) := (blk_cell BK399.out 1).trans rfl; have hcz31_2 : w29.cell? ⟨gb399, 2, none⟩ = some (.slice none 0 0) := (blk_cell BK399.out 2).trans rfl; have hcz31_3 : w29.cell? ⟨gb399, 3, none⟩ = some (.slice none 0 0) := (blk_cell BK399.out 3).trans rfl; have hfz31_0 := blk_frozen BK399.out 0; have hfz31_1 := blk_frozen BK399.out 1; have hfz31_2 := blk_frozen BK399.out 2; have hfz31_3 := blk_frozen BK399.out 3; obtain ⟨Ao32, co32, eo32⟩ := Kd.R_slice HO395.out; subst eo32; obtain ⟨Ao33, co33, eo33⟩ := Kd.R_slice HO398.out; subst eo33) | ((with_reducible refine gate_callee (f := 15) rfl ?_); refine goesL_ (some 31) rfl rfl Try.func15 (by kernel_rfl) rfl #[.slice A1 l1.length c1] rfl qG ?_; (with_reducible refine (laws_toUint64S.calls k _ _ l1 t400 _ ?side1 ?side2 A14.out).mono ?_); (case side1 => exact Kd.C_below HR1.out (qB)); (case side2 => exact HC1.out); rintro e w34 ⟨v401, rfl, ho0, hb⟩; refine ⟨_, rfl, ?_⟩; have n0_ := Aside0.mk (Kd.R_below (by (with_reducible repeat (first | apply Kd.R_alloc | apply Kd.R_drewN | apply Kd.R_drew)); exact (Kd.R_mono (Kd.R_far (p := ⟨gb399, 3, none⟩) (Kd.R_far (p := ⟨gb399, 2, none⟩) (Kd.R_far (p := ⟨gb399, 1, none⟩) (Kd.R_far (p := ⟨gb399, 0, none⟩) (Kd.R_types HO382.out BK399.out (by decide)) (fun _ hk => hk.2) (.int .i64 t391)) (fun _ hk => hk.2) (.int .i64 t392)) (fun _ hk => hk.2) (.slice Ao32 t393.length co32)) (fun _ hk => hk.2) (.slice Ao33 t396.length co33)) (fun _ h_ => h_.1))) hb); have n1_ := Aside0.mk (Kd.R_below (by (with_reducible repeat (first | apply Kd.R_alloc | apply Kd.R_drewN | apply Kd.R_drew)); exact (Kd.R_mono (Kd.R_far (p := ⟨gb399, 3, none⟩) (Kd.R_far (p := ⟨gb399, 2, none⟩) (Kd.R_far (p := ⟨gb399, 1, none⟩) (Kd.R_far (p := ⟨gb399, 0, none⟩) (Kd.R_types HO385.out BK399.out (by decide)) (fun _ hk => hk.2) (.int .i64 t391)) (fun _ hk => hk.2) (.int .i64 t392)) (fun _ hk => hk.2) (.slice Ao32 t393.length co32)) (fun _ hk => hk.2) (.slice Ao33 t396.length co33)) (fun _ h_ => h_.1))) hb); have n2_ := Aside0.mk (Kd.R_elder' (by (with_reducible repeat (first | apply Kd.R_alloc | apply Kd.R_drewN | apply Kd.R_drew)); exact (Kd.R_mono (Kd.R_far (p := ⟨gb399, 3, none⟩) (Kd.R_far (p := ⟨gb399, 2, none⟩) (Kd.R_far (p := ⟨gb399, 1, none⟩) (Kd.R_far (p := ⟨gb399, 0, none⟩) (Kd.R_types HO388.out BK399.out (by decide)) (fun _ hk => hk.2) (.int .i64 t391)) (fun _ hk => hk.2) (.int .i64 t392)) (fun _ hk => hk.2) (.slice Ao32 t393.length co32)) (fun _ hk => hk.2) (.slice Ao33 t396.length co33)) (fun _ h_ => h_.1))) (Kd.R_base ho0) hb); have n3_ := Aside0.mk (Kd.R_below (by (with_reducible repeat (first | apply Kd.R_alloc | apply Kd.R_drewN | apply Kd.R_drew)); exact (Kd.R_mono (Kd.R_far (p := ⟨gb399, 3, none⟩) (Kd.R_far (p := ⟨gb399, 2, none⟩) (Kd.R_far (p := ⟨gb399, 1, none⟩) (Kd.R_far (p := ⟨gb399, 0, none⟩) (Kd.R_types HO395.out BK399.out (by decide)) (fun _ hk => hk.2) (.int .i64 t391)) (fun _ hk => hk.2) (.int .i64 t392)) (fun _ hk => hk.2) (.slice Ao32 t393.length co32)) (fun _ hk => hk.2) (.slice Ao33 t396.length co33)) (fun _ h_ => h_.1))) hb); have n4_ := Aside0.mk (Kd.R_below (by (with_reducible repeat (first | apply Kd.R_alloc | apply Kd.R_drewN | apply Kd.R_drew)); exact (Kd.R_mono (Kd.R_far (p := ⟨gb399, 3, none⟩) (Kd.R_far (p := ⟨gb399, 2, none⟩) (Kd.R_far (p := ⟨gb399, 1, none⟩) (Kd.R_far (p := ⟨gb399, 0, none⟩) (Kd.R_types HO398.out BK399.out (by decide)) (fun _ hk => hk.2) (.int .i64 t391)) (fun _ hk => hk.2) (.int .i64 t392)) (fun _ hk => hk.2) (.slice Ao32 t393.length co32)) (fun _ hk => hk.2) (.slice Ao33 t396.length co33)) (fun _ h_ => h_.1))) hb); have n5_ := Aside0.mk (Kd.R_lower (Kd.R_new' ho0 (Kd.R_lt (by (with_reducible repeat (first | apply Kd.R_alloc | apply Kd.R_drewN | apply Kd.R_drew)); exact (Kd.R_mono (Kd.R_far (p := ⟨gb399, 3, none⟩) (Kd.R_far (p := ⟨gb399, 2, none⟩) (Kd.R_far (p := ⟨gb399, 1, none⟩) (Kd.R_far (p := ⟨gb399, 0, none⟩) (Kd.R_types HO388.out BK399.out (by decide)) (fun _ hk => hk.2) (.int .i64 t391)) (fun _ hk => hk.2) (.int .i64 t392)) (fun _ hk => hk.2) (.slice Ao32 t393.length co32)) (fun _ hk => hk.2) (.slice Ao33 t396.length co33)) (fun _ h_ => h_.1))))) (below_size (qB))); have n6_ := Aside0.mk (blk_below (g := gb376) (o := .cells #[.int .i64 a0_0, .int .i64 a0_1, .slice A0_2 l0_2.length c0_2, .slice A0_3 l0_3.length c0_3] 25 (0, 0)) (qF BK376.out) hb); have n7_ := Aside0.mk (blk_below (g := gb399) (o := .cells #[.int .i64 t391, .int .i64 t392, .slice Ao32 t393.length co32, .slice Ao33 t396.length co33] 31 (0, 0)) (by (with_reducible repeat (first | refine blk_drewN ?_ _ | refine blk_drew ?_ | refine blk_alloc ?_ _)); refine blk_put (cs := #[.int .i64 t391, .int .i64 t392, .slice Ao32 t393.length co32, .slice none 0 0]) ?_ 3 _ rfl; (with_reducible repeat (first | refine blk_drewN ?_ _ | refine blk_drew ?_ | refine blk_alloc ?_ _)); refine blk_put (cs := #[.int .i64 t391, .int .i64 t392, .slice none 0 0, .slice none 0 0]) ?_ 2 _ rfl; (with_reducible repeat (first | refine blk_drewN ?_ _ | refine blk_drew ?_ | refine blk_alloc ?_ _)); refine blk_put (cs := #[.int .i64 t391, .int .i64 0, .slice none 0 0, .slice none 0 0]) ?_ 1 _ rfl; (with_reducible repeat (first | refine blk_drewN ?_ _ | refine blk_drew ?_ | refine blk_alloc ?_ _)); refine blk_put (cs := #[.int .i64 0, .int .i64 0, .slice none 0 0, .slice none 0 0]) ?_ 0 _ rfl; (with_reducible repeat (first | refine blk_drewN ?_ _ | refine blk_drew ?_ | refine blk_alloc ?_ _)); exact BK399.out) hb); have n8_ := Aside0.mk (below_step (qB) hb); clear HO382; clear HO385; clear HO388; clear HO395; clear HO398; clear BK376; clear BK399; clear HB; have HO382 := n0_; have HO385 := n1_; have HO388 := n2_; have HO395 := n3_; have HO398 := n4_; have HO402 := n5_; have BK376 := n6_; have BK399 := n7_; have HB := n8_; clear n0_ n1_ n2_ n3_ n4_ n5_ n6_ n7_ n8_; (try clear hb); (try clear hb2); (try clear hk); (try clear hi); (try clear ho0); have hcz35_0 : w34.cell? ⟨gb399, 0, none⟩ = some (.int .i64 t391) := (blk_cell BK399.out 0).trans rfl; have hcz35_1 : w34.cell? ⟨gb399, 1, none⟩ = some (.int .i64 t392) := (blk_cell BK399.out 1).trans rfl; have hcz35_2 : w34.cell? ⟨gb399, 2, none⟩ = some (.slice Ao32 t393.length co32) := (blk_cell BK399.out 2).trans rfl; have hcz35_3 : w34.cell? ⟨gb399, 3, none⟩ = some (.slice Ao33 t396.length co33) := (blk_cell BK399.out 3).trans rfl; have hfz35_0 := blk_frozen BK399.out 0; have hfz35_1 := blk_frozen BK399.out 1; have hfz35_2 := blk_frozen BK399.out 2; have hfz35_3 := blk_frozen BK399.out 3; obtain ⟨Ao36, co36, eo36⟩ := Kd.R_slice HO402.out; subst eo36) | ((with_reducible refine gate_callee (f := 16) rfl ?_); refine goesL_ (some 35) rfl rfl Try.func16 (by kernel_rfl) rfl #[.agg #[.int .i64 t391, .int .i64 t392, .slice Ao32 t393.length co32, .slice Ao33 t396.length co33], .slice Ao36 t400.length co36] rfl qG ?_; (with_reducible refine (impl_StateNo.calls k t391 t392 _ _ t393 _ _ t396 _ _ t400 t403 t404 _ ?side1 ?side2 ?side3 ?side4 ?side5 ?side6 A15.out).mono ?_); (case side1 => repeat (first | exact (Kd.R_reads' HO395.out).2.2 | (with_reducible refine Kd.C_alloc ?_ _) | (with_reducible refine Kd.C_drewN ?_ _) | (with_reducible refine Kd.C_drew ?_))); (case side2 => exact (Kd.R_reads' HO395.out).2.1); (case side3 => repeat (first | exact (Kd.R_reads' HO398.out).2.2 | (with_reducible refine Kd.C_alloc ?_ _) | (with_reducible refine Kd.C_drewN ?_ _) | (with_reducible refine Kd.C_drew ?_))); (case side4 => exact (Kd.R_reads' HO398.out).2.1); (case side5 => repeat (first | exact (Kd.R_reads' HO402.out).2.2 | (with_reducible refine Kd.C_alloc ?_ _) | (with_reducible refine Kd.C_drewN ?_ _) | (with_reducible refine Kd.C_drew ?_))); (case side6 => exact (Kd.R_reads' HO402.out).2.1); rintro e w37 ⟨rfl, hb⟩; refine ⟨_, rfl, ?_⟩; have n0_ := Aside0.mk (Kd.R_below (qR HO382.out) hb); have n1_ := Aside0.mk (Kd.R_below (qR HO385.out) hb); have n2_ := Aside0.mk (Kd.R_below (qR HO388.out) hb); have n3_ := Aside0.mk (Kd.R_below (qR HO395.out) hb); have n4_ := Aside0.mk (Kd.R_below (qR HO398.out) hb); have n5_ := Aside0.mk (Kd.R_below (qR HO402.out) hb); have n6_ := Aside0.mk (blk_below (g := gb376) (o := .cells #[.int .i64 a0_0, .int .i64 a0_1, .slice A0_2 l0_2.length c0_2, .slice A0_3 l0_3.length c0_3] 25 (0, 0)) (qK BK376.out) hb); have n7_ := Aside0.mk (blk_below (g := gb399) (o := .cells #[.int .i64 t391, .int .i64 t392, .slice Ao32 t393.length co32, .slice Ao33 t396.length co33] 31 (0, 0)) (qK BK399.out) hb); have n8_ := Aside0.mk (below_step (qB) hb); clear HO382; clear HO385; clear HO388; clear HO395; clear HO398; clear HO402; clear BK376; clear BK399; clear HB; have HO382 := n0_; have HO385 := n1_; have HO388 := n2_; have HO395 := n3_; have HO398 := n4_; have HO402 := n5_; have BK376 := n6_; have BK399 := n7_; have HB := n8_; clear n0_ n1_ n2_ n3_ n4_ n5_ n6_ n7_ n8_; (try clear hb); (try clear hb2); (try clear hk); (try clear hi)))
   (try simp only [Act.put, List.setIfInBounds_toArray, List.set_cons_zero, List.set_cons_succ])
   go_cut [45] (fun v45 wc => ∃ (kq : Nat) (x45_15 : Bool), v45 = .bool x45_15 ∧ Aside0 (laws_FnExactStateNo.j0 kq l1 t400 x45_15 a0_0 a0_1 l0_2 l0_3 t391 t392 t393 t396 = some r) ∧ Aside0 (kq ≤ k) ∧ Aside0 (Kd.R (Kd.int .u64) 66 wc w.heap.size (fun _ => True) (.slice Ao36 t400.length co36) t400) ∧ Aside0 (Kd.R k82 82 wc w.heap.size (fun _ => True) (.slice Ao32 t393.length co32) t393) ∧ Aside0 (Kd.R k54 54 wc w.heap.size (fun k_ => some k_ ≠ ((.slice Ao32 t393.length co32) : Value).ownBlock) (.slice Ao33 t396.length co33) t396) ∧ Aside0 (wc.heap[gb376]? = some (.cells #[.int .i64 a0_0, .int .i64 a0_1, (.slice A0_2 l0_2.length c0_2), (.slice A0_3 l0_3.length c0_3)] 25 (0, 0))) ∧ Aside0 (wc.heap[gb399]? = some (.cells #[.int .i64 t391, .int .i64 t392, (.slice Ao32 t393.length co32), (.slice Ao33 t396.length co33)] 31 (0, 0))) ∧ Aside0 (Below w.heap.size w wc))
   case first =>
    have H := HC16.out
    clear HC16
    by_cases c38 : t403 = t389
    ·rw [if_pos c38] at H
     have c38b0 : (t403 == t389) = true := beq_iff_eq.mpr c38
     have c38b1 : (t403 != t389) = false := bne_eq_false_iff_eq.mpr c38
     clear c38
     (first | rw [c38b0] | (simp only [i64_w, i32_w]; rw [c38b0]) | skip)
     have H' := Aside0.mk H
     clear H
     go_wp2
     go_meet
     case rel => exact ⟨_, ((t404 != t390)), qS, H', ⟨by first | omega | exact Nat.le_refl _⟩, ⟨by (with_reducible repeat (first | apply Kd.R_alloc | apply Kd.R_drewN | apply Kd.R_drew)); exact Kd.R_mono HO402.out (fun _ hk => trivial)⟩, ⟨by (with_reducible repeat (first | apply Kd.R_alloc | apply Kd.R_drewN | apply Kd.R_drew)); exact Kd.R_mono HO395.out (fun _ hk => trivial)⟩, ⟨by (with_reducible repeat (first | apply Kd.R_alloc | apply Kd.R_drewN | apply Kd.R_drew)); exact Kd.R_mono HO398.out (fun _ hk => hk.1.1)⟩, ⟨by (with_reducible repeat (first | refine blk_drewN ?_ _ | refine blk_drew ?_ | refine blk_alloc ?_ _)); exact BK376.out⟩, ⟨by (with_reducible repeat (first | refine blk_drewN ?_ _ | refine blk_drew ?_ | refine blk_alloc ?_ _)); exact BK399.out⟩, ⟨qB⟩⟩
    ·rw [if_neg c38] at H
     have c38b0 : (t403 == t389) = false := beq_eq_false_iff_ne.mpr c38
     have c38b1 : (t403 != t389) = true := bne_iff_ne.mpr c38
     (first | rw [c38b0] | (simp only [i64_w, i32_w]; rw [c38b0]) | skip)
     have H' := Aside0.mk H
     clear H
     go_wp2
     go_meet
     case rel => exact ⟨_, (true), qS, H', ⟨by first | omega | exact Nat.le_refl _⟩, ⟨by (with_reducible repeat (first | apply Kd.R_alloc | apply Kd.R_drewN | apply Kd.R_drew)); exact Kd.R_mono HO402.out (fun _ hk => trivial)⟩, ⟨by (with_reducible repeat (first | apply Kd.R_alloc | apply Kd.R_drewN | apply Kd.R_drew)); exact Kd.R_mono HO395.out (fun _ hk => trivial)⟩, ⟨by (with_reducible repeat (first | apply Kd.R_alloc | apply Kd.R_drewN | apply Kd.R_drew)); exact Kd.R_mono HO398.out (fun _ hk => hk.1.1)⟩, ⟨by (with_reducible repeat (first | refine blk_drewN ?_ _ | refine blk_drew ?_ | refine blk_alloc ?_ _)); exact BK376.out⟩, ⟨by (with_reducible repeat (first | refine blk_drewN ?_ _ | refine blk_drew ?_ | refine blk_alloc ?_ _)); exact BK399.out⟩, ⟨qB⟩⟩
   case rest =>
    clear HC16
    try clear c1
    try clear p2
    try clear c3
    try clear c3b0
    try clear c3b1
    try clear c5
    try clear c6
    try clear c6b0
    try clear c7
    try clear c9
    try clear c14
    try clear c15
    try clear c16
    try clear c30
    try clear c38
    try clear c38b0
    try clear c38b1
    try clear hcz18_0
    try clear hcz18_1
    try clear hcz18_2
    try clear hcz18_3
    try clear hcz20_0
    try clear hcz20_1
    try clear hcz20_2
    try clear hcz20_3
    try clear hcz27_0
    try clear hcz27_1
    try clear hcz27_2
    try clear hcz27_3
    try clear hcz31_0
    try clear hcz31_1
    try clear hcz31_2
    try clear hcz31_3
    try clear hcz35_0
    try clear hcz35_1
    try clear hcz35_2
    try clear hcz35_3
    try clear hcz8_0
    try clear hcz8_1
    try clear hcz8_2
    try clear hcz8_3
    try clear hfz18_0
    try clear hfz18_1
    try clear hfz18_2
    try clear hfz18_3
    try clear hfz20_0
    try clear hfz20_1
    try clear hfz20_2
    try clear hfz20_3
    try clear hfz27_0
    try clear hfz27_1
    try clear hfz27_2
    try clear hfz27_3
    try clear hfz31_0
    try clear hfz31_1
    try clear hfz31_2
    try clear hfz31_3
    try clear hfz35_0
    try clear hfz35_1
    try clear hfz35_2
    try clear hfz35_3
    try clear hfz8_0
    try clear hfz8_1
    try clear hfz8_2
    try clear hfz8_3
    obtain ⟨kq, x45_15, rfl, HA, HJ15, HO_9, HO_400002, HO_400003, BK376, BK399, HB⟩ := hcut
    cases kq with
    | zero => exact absurd HA.out (by simp [laws_FnExactStateNo.j0])
    | succ kj15 =>
     have H := HA.out
     clear HA
     simp only [laws_FnExactStateNo.j0] at H
     by_cases c39 : x45_15 = true
     ·subst c39
      have H1 : (some false) = some r := by rw [if_pos rfl] at H; exact H
      clear H
      have H := H1
      clear H1
      obtain rfl := Option.some.inj H
      go_wp2
      go_ret
      exact ⟨qE, qB⟩
     ·replace c39 := Bool.eq_false_iff.mpr c39
      subst c39
      have H1 : ((laws_toProgram.f kj15 a0_0 a0_1 l0_2 l0_3).bind fun bt405 => ((laws_eqProgram.f kj15 t391 t392 t393 t396 bt405.1 bt405.2.1 bt405.2.2.1 bt405.2.2.2).bind fun t413 => (if t413 = true then ((laws_toUint64S.f kj15 l1).bind fun t414 => ((laws_eqUint64S.f kj15 t400 t414).bind fun t417 => (if t417 = true then (some true) else (some false)))) else (some false)))) = some r := by rw [if_neg (show ¬ (false = true) by decide)] at H; exact H
      clear H
      have H := H1
      clear H1
      replace H := Option.bind_eq_some_iff.mp H
      obtain ⟨⟨t405, t406, t407, t410⟩, A400, H⟩ := H
      replace H : ((laws_eqProgram.f kj15 t391 t392 t393 t396 t405 t406 t407 t410).bind fun t413 => (if t413 = true then ((laws_toUint64S.f kj15 l1).bind fun t414 => ((laws_eqUint64S.f kj15 t400 t414).bind fun t417 => (if t417 = true then (some true) else (some false)))) else (some false))) = some r := H
      have A40 := Aside0.mk A400
      clear A400
      replace H := Option.bind_eq_some_iff.mp H
      obtain ⟨t413, A410, H⟩ := H
      replace H : (if t413 = true then ((laws_toUint64S.f kj15 l1).bind fun t414 => ((laws_eqUint64S.f kj15 t400 t414).bind fun t417 => (if t417 = true then (some true) else (some false)))) else (some false)) = some r := H
      have A41 := Aside0.mk A410
      clear A410
      by_cases c42 : t413 = true
      ·subst c42
       have H1 : ((laws_toUint64S.f kj15 l1).bind fun t414 => ((laws_eqUint64S.f kj15 t400 t414).bind fun t417 => (if t417 = true then (some true) else (some false)))) = some r := by rw [if_pos rfl] at H; exact H
       clear H
       have H := H1
       clear H1
       replace H := Option.bind_eq_some_iff.mp H
       obtain ⟨t414, A430, H⟩ := H
       replace H : ((laws_eqUint64S.f kj15 t400 t414).bind fun t417 => (if t417 = true then (some true) else (some false))) = some r := H
       have A43 := Aside0.mk A430
       clear A430
       replace H := Option.bind_eq_some_iff.mp H
       obtain ⟨t417, A440, H⟩ := H
       replace H : (if t417 = true then (some true) else (some false)) = some r := H
       have A44 := Aside0.mk A440
       clear A440
       by_cases c45 : t417 = true
       ·subst c45
        have H1 : (some true) = some r := by rw [if_pos rfl] at H; exact H
        clear H
        have H := H1
        clear H1
        obtain rfl := Option.some.inj H
        try go_wp2
        have n0_ := Aside0.mk (Kd.R_drew HO_9.out)
        have n1_ := Aside0.mk (Kd.R_drew HO_400002.out)
        have n2_ := Aside0.mk (Kd.R_drew HO_400003.out)
        have n3_ := Aside0.mk (blk_drew BK376.out)
        have n4_ := Aside0.mk (blk_drew BK399.out)
        have n5_ := Aside0.mk (below_drew1 HB.out)
        clear HO_9
        clear HO_400002
        clear HO_400003
        clear BK376
        clear BK399
        clear HB
        have HO_9 := n0_
        have HO_400002 := n1_
        have HO_400003 := n2_
        have BK376 := n3_
        have BK399 := n4_
        have HB := n5_
        clear n0_ n1_ n2_ n3_ n4_ n5_
        refine start_ (n := 5) (S := fun w' => w'.cell? ⟨gb399, 0, none⟩ = some (.int .i64 t391) ∧ w'.cell? ⟨gb399, 1, none⟩ = some (.int .i64 t392) ∧ w'.cell? ⟨gb399, 2, none⟩ = some (.slice Ao32 t393.length co32) ∧ w'.cell? ⟨gb399, 3, none⟩ = some (.slice Ao33 t396.length co33) ∧ w'.cell? ⟨gb376, 0, none⟩ = some (.int .i64 a0_0) ∧ w'.cell? ⟨gb376, 1, none⟩ = some (.int .i64 a0_1) ∧ w'.cell? ⟨gb376, 2, none⟩ = some (.slice A0_2 l0_2.length c0_2) ∧ w'.cell? ⟨gb376, 3, none⟩ = some (.slice A0_3 l0_3.length c0_3)) (ds := []) #[false, false, false, false, false] (by kernel_rfl) rfl rfl ⟨(blk_cell BK399.out 0).trans rfl, (blk_cell BK399.out 1).trans rfl, (blk_cell BK399.out 2).trans rfl, (blk_cell BK399.out 3).trans rfl, (blk_cell BK376.out 0).trans rfl, (blk_cell BK376.out 1).trans rfl, (blk_cell BK376.out 2).trans rfl, (blk_cell BK376.out 3).trans rfl⟩ (fun hHeld => ?_)
        generalize wc.drew = w46 at HO_9 HO_400002 HO_400003 BK376 BK399 HB hHeld ⊢
        refine take_ (i := 0) (N := some 46) (v := ?_) (a' := ?_) #[true, false, false, false, false] rfl rfl (by kernel_rfl) (fun _ _ _ h => h) (Or.inl ⟨by rfl, ?_⟩) hHeld ?_ ?_
        rotate_left
        ·rintro w' ⟨s0, s1, s2, s3, s4, s5, s6, s7⟩
         go_simp
         with_reducible rfl
        rotate_left
        ·simp only [Act.put, List.setIfInBounds_toArray, List.set_cons_zero, List.set_cons_succ, i64_w, i32_w]
         rfl
        refine take_ (i := 1) (N := some 47) (v := ?_) (a' := ?_) #[true, true, false, false, false] rfl rfl (by kernel_rfl) (fun _ _ _ h => h) (Or.inl ⟨by rfl, ?_⟩) hHeld ?_ ?_
        rotate_left
        ·rintro w' ⟨s0, s1, s2, s3, s4, s5, s6, s7⟩
         go_simp
         with_reducible rfl
        rotate_left
        ·simp only [Act.put, List.setIfInBounds_toArray, List.set_cons_zero, List.set_cons_succ, i64_w, i32_w]
         rfl
        refine one_ (i := 2) (N := some 48) #[true, true, true, false, false] rfl rfl (by kernel_rfl) (by decide) (fun K hK => ?_)
        refine goes_ Try.func9 (by kernel_rfl) rfl #[.agg #[.int .i64 a0_0, .int .i64 a0_1, .slice A0_2 l0_2.length c0_2, .slice A0_3 l0_3.length c0_3]] (by rfl) rfl rfl qG ?_
        with_reducible refine (laws_toProgram.calls kj15 a0_0 a0_1 _ _ l0_2 _ _ l0_3 t405 t406 t407 t410 _ ?side1 ?side2 ?side3 ?side4 A40.out).mono ?_
        (case side1 => exact qC (Kd.C_below HR0_2.out HB.out))
        (case side2 => exact HC0_2.out)
        (case side3 => exact qC (Kd.C_below HR0_3.out HB.out))
        (case side4 => exact HC0_3.out)
        rintro e w47 ⟨v408, v411, rfl, ho0, ho1, hb⟩
        refine ⟨_, rfl, ?_⟩
        have n0_ := Aside0.mk (Kd.R_below (qR HO_9.out) hb)
        have n1_ := Aside0.mk (Kd.R_elder' (qR HO_400002.out) (Kd.R_base ho0) hb)
        have n2_ := Aside0.mk (Kd.R_mono (Kd.R_told (Kd.R_told (Kd.R_old (qR HO_400003.out) hb) (Kd.R_base ho0)) (Kd.R_base ho1)) (fun _ h_ => h_.1))
        have n3_ := Aside0.mk (Kd.R_lower (Kd.R_new' ho0 (Kd.R_lt (qR HO_400002.out))) (below_size (qB)))
        have n4_ := Aside0.mk (Kd.R_lower (Kd.R_new' (Kd.R_new' ho1 (Kd.R_lt (qR HO_400002.out))) (Kd.R_lt (qR HO_400003.out))) (below_size (qB)))
        have n5_ := Aside0.mk (blk_below (g := gb376) (o := .cells #[.int .i64 a0_0, .int .i64 a0_1, .slice A0_2 l0_2.length c0_2, .slice A0_3 l0_3.length c0_3] 25 (0, 0)) (qK BK376.out) hb)
        have n6_ := Aside0.mk (blk_below (g := gb399) (o := .cells #[.int .i64 t391, .int .i64 t392, .slice Ao32 t393.length co32, .slice Ao33 t396.length co33] 31 (0, 0)) (qK BK399.out) hb)
        have n7_ := Aside0.mk (below_step (qB) hb)
        clear HO_9
        clear HO_400002
        clear HO_400003
        clear BK376
        clear BK399
        clear HB
        have HO_9 := n0_
        have HO_400002 := n1_
        have HO_400003 := n2_
        have HO409 := n3_
        have HO412 := n4_
        have BK376 := n5_
        have BK399 := n6_
        have HB := n7_
        clear n0_ n1_ n2_ n3_ n4_ n5_ n6_ n7_
        (try clear hb)
        (try clear hb2)
        (try clear hk)
        (try clear hi)
        (try clear ho0)
        (try clear ho1)
        obtain ⟨Ao48, co48, eo48⟩ := Kd.R_slice HO409.out
        (first | subst eo48 | (injection eo48 with f1_ f2_ f3_; have f4_ := f1_.symm; have f5_ := f3_.symm; clear f1_ f2_ f3_; subst f4_; subst f5_))
        obtain ⟨Ao49, co49, eo49⟩ := Kd.R_slice HO412.out
        (first | subst eo49 | (injection eo49 with f1_ f2_ f3_; have f4_ := f1_.symm; have f5_ := f3_.symm; clear f1_ f2_ f3_; subst f4_; subst f5_))
        refine hK.out _ _ ⟨(blk_cell BK399.out 0).trans rfl, (blk_cell BK399.out 1).trans rfl, (blk_cell BK399.out 2).trans rfl, (blk_cell BK399.out 3).trans rfl, (blk_cell BK376.out 0).trans rfl, (blk_cell BK376.out 1).trans rfl, (blk_cell BK376.out 2).trans rfl, (blk_cell BK376.out 3).trans rfl⟩ (fun hHeld => ?_)
        clear hK K
        refine norm_ (a' := ?_) ?_ ?_
        rotate_left
        ·show Act.put _ (some 48) _ = _
         simp only [Act.put, List.setIfInBounds_toArray, List.set_cons_zero, List.set_cons_succ, i64_w, i32_w]
         rfl
        refine one_ (i := 3) (N := some 49) #[true, true, true, true, false] rfl rfl (by kernel_rfl) (by decide) (fun K hK => ?_)
        refine goes_ Try.func11 (by kernel_rfl) rfl #[.agg #[.int .i64 t391, .int .i64 t392, .slice Ao32 t393.length co32, .slice Ao33 t396.length co33], .agg #[.int .i64 t405, .int .i64 t406, .slice Ao48 t407.length co48, .slice Ao49 t410.length co49]] (by rfl) rfl rfl qG ?_
        with_reducible refine (laws_eqProgram.calls kj15 t391 t392 _ _ t393 _ _ t396 t405 t406 _ _ t407 _ _ t410 true _ ?side1 ?side2 ?side3 ?side4 ?side5 ?side6 ?side7 ?side8 A41.out).mono ?_
        (case side1 => repeat (first | exact (Kd.R_reads' HO_400002.out).2.2 | (with_reducible refine Kd.C_alloc ?_ _) | (with_reducible refine Kd.C_drewN ?_ _) | (with_reducible refine Kd.C_drew ?_)))
        (case side2 => exact (Kd.R_reads' HO_400002.out).2.1)
        (case side3 => repeat (first | exact (Kd.R_reads' HO_400003.out).2.2 | (with_reducible refine Kd.C_alloc ?_ _) | (with_reducible refine Kd.C_drewN ?_ _) | (with_reducible refine Kd.C_drew ?_)))
        (case side4 => exact (Kd.R_reads' HO_400003.out).2.1)
        (case side5 => repeat (first | exact (Kd.R_reads' HO409.out).2.2 | (with_reducible refine Kd.C_alloc ?_ _) | (with_reducible refine Kd.C_drewN ?_ _) | (with_reducible refine Kd.C_drew ?_)))
        (case side6 => exact (Kd.R_reads' HO409.out).2.1)
        (case side7 => repeat (first | exact (Kd.R_reads' HO412.out).2.2 | (with_reducible refine Kd.C_alloc ?_ _) | (with_reducible refine Kd.C_drewN ?_ _) | (with_reducible refine Kd.C_drew ?_)))
        (case side8 => exact (Kd.R_reads' HO412.out).2.1)
        rintro e w50 ⟨rfl, hb⟩
        refine ⟨_, rfl, ?_⟩
        have n0_ := Aside0.mk (Kd.R_below (qR HO_9.out) hb)
        have n1_ := Aside0.mk (Kd.R_below (qR HO_400002.out) hb)
        have n2_ := Aside0.mk (Kd.R_below (qR HO_400003.out) hb)
        have n3_ := Aside0.mk (Kd.R_below (qR HO409.out) hb)
        have n4_ := Aside0.mk (Kd.R_below (qR HO412.out) hb)
        have n5_ := Aside0.mk (blk_below (g := gb376) (o := .cells #[.int .i64 a0_0, .int .i64 a0_1, .slice A0_2 l0_2.length c0_2, .slice A0_3 l0_3.length c0_3] 25 (0, 0)) (qK BK376.out) hb)
        have n6_ := Aside0.mk (blk_below (g := gb399) (o := .cells #[.int .i64 t391, .int .i64 t392, .slice Ao32 t393.length co32, .slice Ao33 t396.length co33] 31 (0, 0)) (qK BK399.out) hb)
        have n7_ := Aside0.mk (below_step (qB) hb)
        clear HO_9
        clear HO_400002
        clear HO_400003
        clear HO409
        clear HO412
        clear BK376
        clear BK399
        clear HB
        have HO_9 := n0_
        have HO_400002 := n1_
        have HO_400003 := n2_
        have HO409 := n3_
        have HO412 := n4_
        have BK376 := n5_
        have BK399 := n6_
        have HB := n7_
        clear n0_ n1_ n2_ n3_ n4_ n5_ n6_ n7_
        (try clear hb)
        (try clear hb2)
        (try clear hk)
        (try clear hi)
        refine hK.out _ _ ⟨(blk_cell BK399.out 0).trans rfl, (blk_cell BK399.out 1).trans rfl, (blk_cell BK399.out 2).trans rfl, (blk_cell BK399.out 3).trans rfl, (blk_cell BK376.out 0).trans rfl, (blk_cell BK376.out 1).trans rfl, (blk_cell BK376.out 2).trans rfl, (blk_cell BK376.out 3).trans rfl⟩ (fun hHeld => ?_)
        clear hK K
        refine norm_ (a' := ?_) ?_ ?_
        rotate_left
        ·show Act.put _ (some 49) _ = _
         simp only [Act.put, List.setIfInBounds_toArray, List.set_cons_zero, List.set_cons_succ, i64_w, i32_w]
         rfl
        refine pure_ (i := 4) (N := some 50) (v := ?_) (a' := ?_) #[true, true, true, true, true] rfl rfl (by kernel_rfl) (fun _ _ _ h => h) (Or.inl ⟨by rfl, ?_⟩) ?_ ?_
        rotate_left
        ·intro w'
         go_simp
         with_reducible rfl
        rotate_left
        ·simp only [Act.put, List.setIfInBounds_toArray, List.set_cons_zero, List.set_cons_succ, i64_w, i32_w]
         rfl
        refine done_ (by kernel_rfl) ?_
        try go_wp2_with (first | ((with_reducible refine gate_callee (f := 15) rfl ?_); refine goesL_ (some 53) rfl rfl Try.func15 (by kernel_rfl) rfl #[.slice A1 l1.length c1] rfl qG ?_; (with_reducible refine (laws_toUint64S.calls kj15 _ _ l1 t414 _ ?side1 ?side2 A43.out).mono ?_); (case side1 => exact qC (Kd.C_below HR1.out HB.out)); (case side2 => exact HC1.out); rintro e w51 ⟨v415, rfl, ho0, hb⟩; refine ⟨_, rfl, ?_⟩; have n0_ := Aside0.mk (Kd.R_elder' (qR HO_9.out) (Kd.R_base ho0) hb); have n1_ := Aside0.mk (Kd.R_below (qR HO_400002.out) hb); have n2_ := Aside0.mk (Kd.R_below (qR HO_400003.out) hb); have n3_ := Aside0.mk (Kd.R_below (qR HO409.out) hb); have n4_ := Aside0.mk (Kd.R_below (qR HO412.out) hb); have n5_ := Aside0.mk (Kd.R_lower (Kd.R_new' ho0 (Kd.R_lt (qR HO_9.out))) (below_size (qB))); have n6_ := Aside0.mk (blk_below (g := gb376) (o := .cells #[.int .i64 a0_0, .int .i64 a0_1, .slice A0_2 l0_2.length c0_2, .slice A0_3 l0_3.length c0_3] 25 (0, 0)) (qK BK376.out) hb); have n7_ := Aside0.mk (blk_below (g := gb399) (o := .cells #[.int .i64 t391, .int .i64 t392, .slice Ao32 t393.length co32, .slice Ao33 t396.length co33] 31 (0, 0)) (qK BK399.out) hb); have n8_ := Aside0.mk (below_step (qB) hb); clear HO_9; clear HO_400002; clear HO_400003; clear HO409; clear HO412; clear BK376; clear BK399; clear HB; have HO_9 := n0_; have HO_400002 := n1_; have HO_400003 := n2_; have HO409 := n3_; have HO412 := n4_; have HO416 := n5_; have BK376 := n6_; have BK399 := n7_; have HB := n8_; clear n0_ n1_ n2_ n3_ n4_ n5_ n6_ n7_ n8_; (try clear hb); (try clear hb2); (try clear hk); (try clear hi); (try clear ho0); obtain ⟨Ao52, co52, eo52⟩ := Kd.R_slice HO416.out; subst eo52) | ((with_reducible refine gate_callee (f := 17) rfl ?_); refine goesL_ (some 54) rfl rfl Try.func17 (by kernel_rfl) rfl #[.slice Ao36 t400.length co36, .slice Ao52 t414.length co52] rfl qG ?_; (with_reducible refine (laws_eqUint64S.calls kj15 _ _ t400 _ _ t414 true _ ?side1 ?side2 ?side3 ?side4 A44.out).mono ?_); (case side1 => repeat (first | exact (Kd.R_reads' HO_9.out).2.2 | (with_reducible refine Kd.C_alloc ?_ _) | (with_reducible refine Kd.C_drewN ?_ _) | (with_reducible refine Kd.C_drew ?_))); (case side2 => exact (Kd.R_reads' HO_9.out).2.1); (case side3 => repeat (first | exact (Kd.R_reads' HO416.out).2.2 | (with_reducible refine Kd.C_alloc ?_ _) | (with_reducible refine Kd.C_drewN ?_ _) | (with_reducible refine Kd.C_drew ?_))); (case side4 => exact (Kd.R_reads' HO416.out).2.1); rintro e w' ⟨rfl, ⟨nd, rfl⟩⟩; refine ⟨_, rfl, ?_⟩))
        go_ret
        exact ⟨qE, qB⟩
       ·replace c45 := Bool.eq_false_iff.mpr c45
        subst c45
        have H1 : (some false) = some r := by rw [if_neg (show ¬ (false = true) by decide)] at H; exact H
        clear H
        have H := H1
        clear H1
        obtain rfl := Option.some.inj H
        try go_wp2
        have n0_ := Aside0.mk (Kd.R_drew HO_9.out)
        have n1_ := Aside0.mk (Kd.R_drew HO_400002.out)
        have n2_ := Aside0.mk (Kd.R_drew HO_400003.out)
        have n3_ := Aside0.mk (blk_drew BK376.out)
        have n4_ := Aside0.mk (blk_drew BK399.out)
        have n5_ := Aside0.mk (below_drew1 HB.out)
        clear HO_9
        clear HO_400002
        clear HO_400003
        clear BK376
        clear BK399
        clear HB
        have HO_9 := n0_
        have HO_400002 := n1_
        have HO_400003 := n2_
        have BK376 := n3_
        have BK399 := n4_
        have HB := n5_
        clear n0_ n1_ n2_ n3_ n4_ n5_
        refine start_ (n := 5) (S := fun w' => w'.cell? ⟨gb399, 0, none⟩ = some (.int .i64 t391) ∧ w'.cell? ⟨gb399, 1, none⟩ = some (.int .i64 t392) ∧ w'.cell? ⟨gb399, 2, none⟩ = some (.slice Ao32 t393.length co32) ∧ w'.cell? ⟨gb399, 3, none⟩ = some (.slice Ao33 t396.length co33) ∧ w'.cell? ⟨gb376, 0, none⟩ = some (.int .i64 a0_0) ∧ w'.cell? ⟨gb376, 1, none⟩ = some (.int .i64 a0_1) ∧ w'.cell? ⟨gb376, 2, none⟩ = some (.slice A0_2 l0_2.length c0_2) ∧ w'.cell? ⟨gb376, 3, none⟩ = some (.slice A0_3 l0_3.length c0_3)) (ds := []) #[false, false, false, false, false] (by kernel_rfl) rfl rfl ⟨(blk_cell BK399.out 0).trans rfl, (blk_cell BK399.out 1).trans rfl, (blk_cell BK399.out 2).trans rfl, (blk_cell BK399.out 3).trans rfl, (blk_cell BK376.out 0).trans rfl, (blk_cell BK376.out 1).trans rfl, (blk_cell BK376.out 2).trans rfl, (blk_cell BK376.out 3).trans rfl⟩ (fun hHeld => ?_)
        generalize wc.drew = w53 at HO_9 HO_400002 HO_400003 BK376 BK399 HB hHeld ⊢
        refine take_ (i := 0) (N := some 46) (v := ?_) (a' := ?_) #[true, false, false, false, false] rfl rfl (by kernel_rfl) (fun _ _ _ h => h) (Or.inl ⟨by rfl, ?_⟩) hHeld ?_ ?_
        rotate_left
        ·rintro w' ⟨s0, s1, s2, s3, s4, s5, s6, s7⟩
         go_simp
         with_reducible rfl
        rotate_left
        ·simp only [Act.put, List.setIfInBounds_toArray, List.set_cons_zero, List.set_cons_succ, i64_w, i32_w]
         rfl
        refine take_ (i := 1) (N := some 47) (v := ?_) (a' := ?_) #[true, true, false, false, false] rfl rfl (by kernel_rfl) (fun _ _ _ h => h) (Or.inl ⟨by rfl, ?_⟩) hHeld ?_ ?_
        rotate_left
        ·rintro w' ⟨s0, s1, s2, s3, s4, s5, s6, s7⟩
         go_simp
         with_reducible rfl
        rotate_left
        ·simp only [Act.put, List.setIfInBounds_toArray, List.set_cons_zero, List.set_cons_succ, i64_w, i32_w]
         rfl
        refine one_ (i := 2) (N := some 48) #[true, true, true, false, false] rfl rfl (by kernel_rfl) (by decide) (fun K hK => ?_)
        refine goes_ Try.func9 (by kernel_rfl) rfl #[.agg #[.int .i64 a0_0, .int .i64 a0_1, .slice A0_2 l0_2.length c0_2, .slice A0_3 l0_3.length c0_3]] (by rfl) rfl rfl qG ?_
        with_reducible refine (laws_toProgram.calls kj15 a0_0 a0_1 _ _ l0_2 _ _ l0_3 t405 t406 t407 t410 _ ?side1 ?side2 ?side3 ?side4 A40.out).mono ?_
        (case side1 => exact qC (Kd.C_below HR0_2.out HB.out))
        (case side2 => exact HC0_2.out)
        (case side3 => exact qC (Kd.C_below HR0_3.out HB.out))
        (case side4 => exact HC0_3.out)
        rintro e w54 ⟨v408, v411, rfl, ho0, ho1, hb⟩
        refine ⟨_, rfl, ?_⟩
        have n0_ := Aside0.mk (Kd.R_below (qR HO_9.out) hb)
        have n1_ := Aside0.mk (Kd.R_elder' (qR HO_400002.out) (Kd.R_base ho0) hb)
        have n2_ := Aside0.mk (Kd.R_mono (Kd.R_told (Kd.R_told (Kd.R_old (qR HO_400003.out) hb) (Kd.R_base ho0)) (Kd.R_base ho1)) (fun _ h_ => h_.1))
        have n3_ := Aside0.mk (Kd.R_lower (Kd.R_new' ho0 (Kd.R_lt (qR HO_400002.out))) (below_size (qB)))
        have n4_ := Aside0.mk (Kd.R_lower (Kd.R_new' (Kd.R_new' ho1 (Kd.R_lt (qR HO_400002.out))) (Kd.R_lt (qR HO_400003.out))) (below_size (qB)))
        have n5_ := Aside0.mk (blk_below (g := gb376) (o := .cells #[.int .i64 a0_0, .int .i64 a0_1, .slice A0_2 l0_2.length c0_2, .slice A0_3 l0_3.length c0_3] 25 (0, 0)) (qK BK376.out) hb)
        have n6_ := Aside0.mk (blk_below (g := gb399) (o := .cells #[.int .i64 t391, .int .i64 t392, .slice Ao32 t393.length co32, .slice Ao33 t396.length co33] 31 (0, 0)) (qK BK399.out) hb)
        have n7_ := Aside0.mk (below_step (qB) hb)
        clear HO_9
        clear HO_400002
        clear HO_400003
        clear BK376
        clear BK399
        clear HB
        have HO_9 := n0_
        have HO_400002 := n1_
        have HO_400003 := n2_
        have HO409 := n3_
        have HO412 := n4_
        have BK376 := n5_
        have BK399 := n6_
        have HB := n7_
        clear n0_ n1_ n2_ n3_ n4_ n5_ n6_ n7_
        (try clear hb)
        (try clear hb2)
        (try clear hk)
        (try clear hi)
        (try clear ho0)
        (try clear ho1)
        obtain ⟨Ao55, co55, eo55⟩ := Kd.R_slice HO409.out
        (first | subst eo55 | (injection eo55 with f1_ f2_ f3_; have f4_ := f1_.symm; have f5_ := f3_.symm; clear f1_ f2_ f3_; subst f4_; subst f5_))
        obtain ⟨Ao56, co56, eo56⟩ := Kd.R_slice HO412.out
        (first | subst eo56 | (injection eo56 with f1_ f2_ f3_; have f4_ := f1_.symm; have f5_ := f3_.symm; clear f1_ f2_ f3_; subst f4_; subst f5_))
        refine hK.out _ _ ⟨(blk_cell BK399.out 0).trans rfl, (blk_cell BK399.out 1).trans rfl, (blk_cell BK399.out 2).trans rfl, (blk_cell BK399.out 3).trans rfl, (blk_cell BK376.out 0).trans rfl, (blk_cell BK376.out 1).trans rfl, (blk_cell BK376.out 2).trans rfl, (blk_cell BK376.out 3).trans rfl⟩ (fun hHeld => ?_)
        clear hK K
        refine norm_ (a' := ?_) ?_ ?_
        rotate_left
        ·show Act.put _ (some 48) _ = _
         simp only [Act.put, List.setIfInBounds_toArray, List.set_cons_zero, List.set_cons_succ, i64_w, i32_w]
         rfl
        refine one_ (i := 3) (N := some 49) #[true, true, true, true, false] rfl rfl (by kernel_rfl) (by decide) (fun K hK => ?_)
        refine goes_ Try.func11 (by kernel_rfl) rfl #[.agg #[.int .i64 t391, .int .i64 t392, .slice Ao32 t393.length co32, .slice Ao33 t396.length co33], .agg #[.int .i64 t405, .int .i64 t406, .slice Ao55 t407.length co55, .slice Ao56 t410.length co56]] (by rfl) rfl rfl qG ?_
        with_reducible refine (laws_eqProgram.calls kj15 t391 t392 _ _ t393 _ _ t396 t405 t406 _ _ t407 _ _ t410 true _ ?side1 ?side2 ?side3 ?side4 ?side5 ?side6 ?side7 ?side8 A41.out).mono ?_
        (case side1 => repeat (first | exact (Kd.R_reads' HO_400002.out).2.2 | (with_reducible refine Kd.C_alloc ?_ _) | (with_reducible refine Kd.C_drewN ?_ _) | (with_reducible refine Kd.C_drew ?_)))
        (case side2 => exact (Kd.R_reads' HO_400002.out).2.1)
        (case side3 => repeat (first | exact (Kd.R_reads' HO_400003.out).2.2 | (with_reducible refine Kd.C_alloc ?_ _) | (with_reducible refine Kd.C_drewN ?_ _) | (with_reducible refine Kd.C_drew ?_)))
        (case side4 => exact (Kd.R_reads' HO_400003.out).2.1)
        (case side5 => repeat (first | exact (Kd.R_reads' HO409.out).2.2 | (with_reducible refine Kd.C_alloc ?_ _) | (with_reducible refine Kd.C_drewN ?_ _) | (with_reducible refine Kd.C_drew ?_)))
        (case side6 => exact (Kd.R_reads' HO409.out).2.1)
        (case side7 => repeat (first | exact (Kd.R_reads' HO412.out).2.2 | (with_reducible refine Kd.C_alloc ?_ _) | (with_reducible refine Kd.C_drewN ?_ _) | (with_reducible refine Kd.C_drew ?_)))
        (case side8 => exact (Kd.R_reads' HO412.out).2.1)
        rintro e w57 ⟨rfl, hb⟩
        refine ⟨_, rfl, ?_⟩
        have n0_ := Aside0.mk (Kd.R_below (qR HO_9.out) hb)
        have n1_ := Aside0.mk (Kd.R_below (qR HO_400002.out) hb)
        have n2_ := Aside0.mk (Kd.R_below (qR HO_400003.out) hb)
        have n3_ := Aside0.mk (Kd.R_below (qR HO409.out) hb)
        have n4_ := Aside0.mk (Kd.R_below (qR HO412.out) hb)
        have n5_ := Aside0.mk (blk_below (g := gb376) (o := .cells #[.int .i64 a0_0, .int .i64 a0_1, .slice A0_2 l0_2.length c0_2, .slice A0_3 l0_3.length c0_3] 25 (0, 0)) (qK BK376.out) hb)
        have n6_ := Aside0.mk (blk_below (g := gb399) (o := .cells #[.int .i64 t391, .int .i64 t392, .slice Ao32 t393.length co32, .slice Ao33 t396.length co33] 31 (0, 0)) (qK BK399.out) hb)
        have n7_ := Aside0.mk (below_step (qB) hb)
        clear HO_9
        clear HO_400002
        clear HO_400003
        clear HO409
        clear HO412
        clear BK376
        clear BK399
        clear HB
        have HO_9 := n0_
        have HO_400002 := n1_
        have HO_400003 := n2_
        have HO409 := n3_
        have HO412 := n4_
        have BK376 := n5_
        have BK399 := n6_
        have HB := n7_
        clear n0_ n1_ n2_ n3_ n4_ n5_ n6_ n7_
        (try clear hb)
        (try clear hb2)
        (try clear hk)
        (try clear hi)
        refine hK.out _ _ ⟨(blk_cell BK399.out 0).trans rfl, (blk_cell BK399.out 1).trans rfl, (blk_cell BK399.out 2).trans rfl, (blk_cell BK399.out 3).trans rfl, (blk_cell BK376.out 0).trans rfl, (blk_cell BK376.out 1).trans rfl, (blk_cell BK376.out 2).trans rfl, (blk_cell BK376.out 3).trans rfl⟩ (fun hHeld => ?_)
        clear hK K
        refine norm_ (a' := ?_) ?_ ?_
        rotate_left
        ·show Act.put _ (some 49) _ = _
         simp only [Act.put, List.setIfInBounds_toArray, List.set_cons_zero, List.set_cons_succ, i64_w, i32_w]
         rfl
        refine pure_ (i := 4) (N := some 50) (v := ?_) (a' := ?_) #[true, true, true, true, true] rfl rfl (by kernel_rfl) (fun _ _ _ h => h) (Or.inl ⟨by rfl, ?_⟩) ?_ ?_
        rotate_left
        ·intro w'
         go_simp
         with_reducible rfl
        rotate_left
        ·simp only [Act.put, List.setIfInBounds_toArray, List.set_cons_zero, List.set_cons_succ, i64_w, i32_w]
         rfl
        refine done_ (by kernel_rfl) ?_
        try go_wp2_with (first | ((with_reducible refine gate_callee (f := 15) rfl ?_); refine goesL_ (some 53) rfl rfl Try.func15 (by kernel_rfl) rfl #[.slice A1 l1.length c1] rfl qG ?_; (with_reducible refine (laws_toUint64S.calls kj15 _ _ l1 t414 _ ?side1 ?side2 A43.out).mono ?_); (case side1 => exact qC (Kd.C_below HR1.out HB.out)); (case side2 => exact HC1.out); rintro e w58 ⟨v415, rfl, ho0, hb⟩; refine ⟨_, rfl, ?_⟩; have n0_ := Aside0.mk (Kd.R_elder' (qR HO_9.out) (Kd.R_base ho0) hb); have n1_ := Aside0.mk (Kd.R_below (qR HO_400002.out) hb); have n2_ := Aside0.mk (Kd.R_below (qR HO_400003.out) hb); have n3_ := Aside0.mk (Kd.R_below (qR HO409.out) hb); have n4_ := Aside0.mk (Kd.R_below (qR HO412.out) hb); have n5_ := Aside0.mk (Kd.R_lower (Kd.R_new' ho0 (Kd.R_lt (qR HO_9.out))) (below_size (qB))); have n6_ := Aside0.mk (blk_below (g := gb376) (o := .cells #[.int .i64 a0_0, .int .i64 a0_1, .slice A0_2 l0_2.length c0_2, .slice A0_3 l0_3.length c0_3] 25 (0, 0)) (qK BK376.out) hb); have n7_ := Aside0.mk (blk_below (g := gb399) (o := .cells #[.int .i64 t391, .int .i64 t392, .slice Ao32 t393.length co32, .slice Ao33 t396.length co33] 31 (0, 0)) (qK BK399.out) hb); have n8_ := Aside0.mk (below_step (qB) hb); clear HO_9; clear HO_400002; clear HO_400003; clear HO409; clear HO412; clear BK376; clear BK399; clear HB; have HO_9 := n0_; have HO_400002 := n1_; have HO_400003 := n2_; have HO409 := n3_; have HO412 := n4_; have HO416 := n5_; have BK376 := n6_; have BK399 := n7_; have HB := n8_; clear n0_ n1_ n2_ n3_ n4_ n5_ n6_ n7_ n8_; (try clear hb); (try clear hb2); (try clear hk); (try clear hi); (try clear ho0); obtain ⟨Ao59, co59, eo59⟩ := Kd.R_slice HO416.out; subst eo59) | ((with_reducible refine gate_callee (f := 17) rfl ?_); refine goesL_ (some 54) rfl rfl Try.func17 (by kernel_rfl) rfl #[.slice Ao36 t400.length co36, .slice Ao59 t414.length co59] rfl qG ?_; (with_reducible refine (laws_eqUint64S.calls kj15 _ _ t400 _ _ t414 false _ ?side1 ?side2 ?side3 ?side4 A44.out).mono ?_); (case side1 => repeat (first | exact (Kd.R_reads' HO_9.out).2.2 | (with_reducible refine Kd.C_alloc ?_ _) | (with_reducible refine Kd.C_drewN ?_ _) | (with_reducible refine Kd.C_drew ?_))); (case side2 => exact (Kd.R_reads' HO_9.out).2.1); (case side3 => repeat (first | exact (Kd.R_reads' HO416.out).2.2 | (with_reducible refine Kd.C_alloc ?_ _) | (with_reducible refine Kd.C_drewN ?_ _) | (with_reducible refine Kd.C_drew ?_))); (case side4 => exact (Kd.R_reads' HO416.out).2.1); rintro e w' ⟨rfl, ⟨nd, rfl⟩⟩; refine ⟨_, rfl, ?_⟩))
        go_ret
        exact ⟨qE, qB⟩
      ·replace c42 := Bool.eq_false_iff.mpr c42
       subst c42
       have H1 : (some false) = some r := by rw [if_neg (show ¬ (false = true) by decide)] at H; exact H
       clear H
       have H := H1
       clear H1
       obtain rfl := Option.some.inj H
       try go_wp2
       have n0_ := Aside0.mk (Kd.R_drew HO_9.out)
       have n1_ := Aside0.mk (Kd.R_drew HO_400002.out)
       have n2_ := Aside0.mk (Kd.R_drew HO_400003.out)
       have n3_ := Aside0.mk (blk_drew BK376.out)
       have n4_ := Aside0.mk (blk_drew BK399.out)
       have n5_ := Aside0.mk (below_drew1 HB.out)
       clear HO_9
       clear HO_400002
       clear HO_400003
       clear BK376
       clear BK399
       clear HB
       have HO_9 := n0_
       have HO_400002 := n1_
       have HO_400003 := n2_
       have BK376 := n3_
       have BK399 := n4_
       have HB := n5_
       clear n0_ n1_ n2_ n3_ n4_ n5_
       refine start_ (n := 5) (S := fun w' => w'.cell? ⟨gb399, 0, none⟩ = some (.int .i64 t391) ∧ w'.cell? ⟨gb399, 1, none⟩ = some (.int .i64 t392) ∧ w'.cell? ⟨gb399, 2, none⟩ = some (.slice Ao32 t393.length co32) ∧ w'.cell? ⟨gb399, 3, none⟩ = some (.slice Ao33 t396.length co33) ∧ w'.cell? ⟨gb376, 0, none⟩ = some (.int .i64 a0_0) ∧ w'.cell? ⟨gb376, 1, none⟩ = some (.int .i64 a0_1) ∧ w'.cell? ⟨gb376, 2, none⟩ = some (.slice A0_2 l0_2.length c0_2) ∧ w'.cell? ⟨gb376, 3, none⟩ = some (.slice A0_3 l0_3.length c0_3)) (ds := []) #[false, false, false, false, false] (by kernel_rfl) rfl rfl ⟨(blk_cell BK399.out 0).trans rfl, (blk_cell BK399.out 1).trans rfl, (blk_cell BK399.out 2).trans rfl, (blk_cell BK399.out 3).trans rfl, (blk_cell BK376.out 0).trans rfl, (blk_cell BK376.out 1).trans rfl, (blk_cell BK376.out 2).trans rfl, (blk_cell BK376.out 3).trans rfl⟩ (fun hHeld => ?_)
       generalize wc.drew = w60 at HO_9 HO_400002 HO_400003 BK376 BK399 HB hHeld ⊢
       refine take_ (i := 0) (N := some 46) (v := ?_) (a' := ?_) #[true, false, false, false, false] rfl rfl (by kernel_rfl) (fun _ _ _ h => h) (Or.inl ⟨by rfl, ?_⟩) hHeld ?_ ?_
       rotate_left
       ·rintro w' ⟨s0, s1, s2, s3, s4, s5, s6, s7⟩
        go_simp
        with_reducible rfl
       rotate_left
       ·simp only [Act.put, List.setIfInBounds_toArray, List.set_cons_zero, List.set_cons_succ, i64_w, i32_w]
        rfl
       refine take_ (i := 1) (N := some 47) (v := ?_) (a' := ?_) #[true, true, false, false, false] rfl rfl (by kernel_rfl) (fun _ _ _ h => h) (Or.inl ⟨by rfl, ?_⟩) hHeld ?_ ?_
       rotate_left
       ·rintro w' ⟨s0, s1, s2, s3, s4, s5, s6, s7⟩
        go_simp
        with_reducible rfl
       rotate_left
       ·simp only [Act.put, List.setIfInBounds_toArray, List.set_cons_zero, List.set_cons_succ, i64_w, i32_w]
        rfl
       refine one_ (i := 2) (N := some 48) #[true, true, true, false, false] rfl rfl (by kernel_rfl) (by decide) (fun K hK => ?_)
       refine goes_ Try.func9 (by kernel_rfl) rfl #[.agg #[.int .i64 a0_0, .int .i64 a0_1, .slice A0_2 l0_2.length c0_2, .slice A0_3 l0_3.length c0_3]] (by rfl) rfl rfl qG ?_
       with_reducible refine (laws_toProgram.calls kj15 a0_0 a0_1 _ _ l0_2 _ _ l0_3 t405 t406 t407 t410 _ ?side1 ?side2 ?side3 ?side4 A40.out).mono ?_
       (case side1 => exact qC (Kd.C_below HR0_2.out HB.out))
       (case side2 => exact HC0_2.out)
       (case side3 => exact qC (Kd.C_below HR0_3.out HB.out))
       (case side4 => exact HC0_3.out)
       rintro e w61 ⟨v408, v411, rfl, ho0, ho1, hb⟩
       refine ⟨_, rfl, ?_⟩
       have n0_ := Aside0.mk (Kd.R_below (qR HO_9.out) hb)
       have n1_ := Aside0.mk (Kd.R_elder' (qR HO_400002.out) (Kd.R_base ho0) hb)
       have n2_ := Aside0.mk (Kd.R_mono (Kd.R_told (Kd.R_told (Kd.R_old (qR HO_400003.out) hb) (Kd.R_base ho0)) (Kd.R_base ho1)) (fun _ h_ => h_.1))
       have n3_ := Aside0.mk (Kd.R_lower (Kd.R_new' ho0 (Kd.R_lt (qR HO_400002.out))) (below_size (qB)))
       have n4_ := Aside0.mk (Kd.R_lower (Kd.R_new' (Kd.R_new' ho1 (Kd.R_lt (qR HO_400002.out))) (Kd.R_lt (qR HO_400003.out))) (below_size (qB)))
       have n5_ := Aside0.mk (blk_below (g := gb376) (o := .cells #[.int .i64 a0_0, .int .i64 a0_1, .slice A0_2 l0_2.length c0_2, .slice A0_3 l0_3.length c0_3] 25 (0, 0)) (qK BK376.out) hb)
       have n6_ := Aside0.mk (blk_below (g := gb399) (o := .cells #[.int .i64 t391, .int .i64 t392, .slice Ao32 t393.length co32, .slice Ao33 t396.length co33] 31 (0, 0)) (qK BK399.out) hb)
       have n7_ := Aside0.mk (below_step (qB) hb)
       clear HO_9
       clear HO_400002
       clear HO_400003
       clear BK376
       clear BK399
       clear HB
       have HO_9 := n0_
       have HO_400002 := n1_
       have HO_400003 := n2_
       have HO409 := n3_
       have HO412 := n4_
       have BK376 := n5_
       have BK399 := n6_
       have HB := n7_
       clear n0_ n1_ n2_ n3_ n4_ n5_ n6_ n7_
       (try clear hb)
       (try clear hb2)
       (try clear hk)
       (try clear hi)
       (try clear ho0)
       (try clear ho1)
       obtain ⟨Ao62, co62, eo62⟩ := Kd.R_slice HO409.out
       (first | subst eo62 | (injection eo62 with f1_ f2_ f3_; have f4_ := f1_.symm; have f5_ := f3_.symm; clear f1_ f2_ f3_; subst f4_; subst f5_))
       obtain ⟨Ao63, co63, eo63⟩ := Kd.R_slice HO412.out
       (first | subst eo63 | (injection eo63 with f1_ f2_ f3_; have f4_ := f1_.symm; have f5_ := f3_.symm; clear f1_ f2_ f3_; subst f4_; subst f5_))
       refine hK.out _ _ ⟨(blk_cell BK399.out 0).trans rfl, (blk_cell BK399.out 1).trans rfl, (blk_cell BK399.out 2).trans rfl, (blk_cell BK399.out 3).trans rfl, (blk_cell BK376.out 0).trans rfl, (blk_cell BK376.out 1).trans rfl, (blk_cell BK376.out 2).trans rfl, (blk_cell BK376.out 3).trans rfl⟩ (fun hHeld => ?_)
       clear hK K
       refine norm_ (a' := ?_) ?_ ?_
       rotate_left
       ·show Act.put _ (some 48) _ = _
        simp only [Act.put, List.setIfInBounds_toArray, List.set_cons_zero, List.set_cons_succ, i64_w, i32_w]
        rfl
       refine one_ (i := 3) (N := some 49) #[true, true, true, true, false] rfl rfl (by kernel_rfl) (by decide) (fun K hK => ?_)
       refine goes_ Try.func11 (by kernel_rfl) rfl #[.agg #[.int .i64 t391, .int .i64 t392, .slice Ao32 t393.length co32, .slice Ao33 t396.length co33], .agg #[.int .i64 t405, .int .i64 t406, .slice Ao62 t407.length co62, .slice Ao63 t410.length co63]] (by rfl) rfl rfl qG ?_
       with_reducible refine (laws_eqProgram.calls kj15 t391 t392 _ _ t393 _ _ t396 t405 t406 _ _ t407 _ _ t410 false _ ?side1 ?side2 ?side3 ?side4 ?side5 ?side6 ?side7 ?side8 A41.out).mono ?_
       (case side1 => repeat (first | exact (Kd.R_reads' HO_400002.out).2.2 | (with_reducible refine Kd.C_alloc ?_ _) | (with_reducible refine Kd.C_drewN ?_ _) | (with_reducible refine Kd.C_drew ?_)))
       (case side2 => exact (Kd.R_reads' HO_400002.out).2.1)
       (case side3 => repeat (first | exact (Kd.R_reads' HO_400003.out).2.2 | (with_reducible refine Kd.C_alloc ?_ _) | (with_reducible refine Kd.C_drewN ?_ _) | (with_reducible refine Kd.C_drew ?_)))
       (case side4 => exact (Kd.R_reads' HO_400003.out).2.1)
       (case side5 => repeat (first | exact (Kd.R_reads' HO409.out).2.2 | (with_reducible refine Kd.C_alloc ?_ _) | (with_reducible refine Kd.C_drewN ?_ _) | (with_reducible refine Kd.C_drew ?_)))
       (case side6 => exact (Kd.R_reads' HO409.out).2.1)
       (case side7 => repeat (first | exact (Kd.R_reads' HO412.out).2.2 | (with_reducible refine Kd.C_alloc ?_ _) | (with_reducible refine Kd.C_drewN ?_ _) | (with_reducible refine Kd.C_drew ?_)))
       (case side8 => exact (Kd.R_reads' HO412.out).2.1)
       rintro e w64 ⟨rfl, hb⟩
       refine ⟨_, rfl, ?_⟩
       have n0_ := Aside0.mk (Kd.R_below (qR HO_9.out) hb)
       have n1_ := Aside0.mk (Kd.R_below (qR HO_400002.out) hb)
       have n2_ := Aside0.mk (Kd.R_below (qR HO_400003.out) hb)
       have n3_ := Aside0.mk (Kd.R_below (qR HO409.out) hb)
       have n4_ := Aside0.mk (Kd.R_below (qR HO412.out) hb)
       have n5_ := Aside0.mk (blk_below (g := gb376) (o := .cells #[.int .i64 a0_0, .int .i64 a0_1, .slice A0_2 l0_2.length c0_2, .slice A0_3 l0_3.length c0_3] 25 (0, 0)) (qK BK376.out) hb)
       have n6_ := Aside0.mk (blk_below (g := gb399) (o := .cells #[.int .i64 t391, .int .i64 t392, .slice Ao32 t393.length co32, .slice Ao33 t396.length co33] 31 (0, 0)) (qK BK399.out) hb)
       have n7_ := Aside0.mk (below_step (qB) hb)
       clear HO_9
       clear HO_400002
       clear HO_400003
       clear HO409
       clear HO412
       clear BK376
       clear BK399
       clear HB
       have HO_9 := n0_
       have HO_400002 := n1_
       have HO_400003 := n2_
       have HO409 := n3_
       have HO412 := n4_
       have BK376 := n5_
       have BK399 := n6_
       have HB := n7_
       clear n0_ n1_ n2_ n3_ n4_ n5_ n6_ n7_
       (try clear hb)
       (try clear hb2)
       (try clear hk)
       (try clear hi)
       refine hK.out _ _ ⟨(blk_cell BK399.out 0).trans rfl, (blk_cell BK399.out 1).trans rfl, (blk_cell BK399.out 2).trans rfl, (blk_cell BK399.out 3).trans rfl, (blk_cell BK376.out 0).trans rfl, (blk_cell BK376.out 1).trans rfl, (blk_cell BK376.out 2).trans rfl, (blk_cell BK376.out 3).trans rfl⟩ (fun hHeld => ?_)
       clear hK K
       refine norm_ (a' := ?_) ?_ ?_
       rotate_left
       ·show Act.put _ (some 49) _ = _
        simp only [Act.put, List.setIfInBounds_toArray, List.set_cons_zero, List.set_cons_succ, i64_w, i32_w]
        rfl
       refine pure_ (i := 4) (N := some 50) (v := ?_) (a' := ?_) #[true, true, true, true, true] rfl rfl (by kernel_rfl) (fun _ _ _ h => h) (Or.inl ⟨by rfl, ?_⟩) ?_ ?_
       rotate_left
       ·intro w'
        go_simp
        with_reducible rfl
       rotate_left
       ·simp only [Act.put, List.setIfInBounds_toArray, List.set_cons_zero, List.set_cons_succ, i64_w, i32_w]
        rfl
       refine done_ (by kernel_rfl) ?_
       try go_wp2
       go_ret
       exact ⟨qE, qB⟩
/-- THE PURE STATEMENT of laws_FnExactStateNo. -/
def laws_FnExactStateNo.Pure : Prop := ∀ (a0_0 : Int) (a0_1 : Int) (l0_2 : List (S84)) (l0_3 : List (S77)) (l1 : List Int), (Lit.int .i64 a0_0).wf = true → (Lit.int .i64 a0_1).wf = true → ((l0_2).length ≤ maxLen ∧ ∀ y ∈ l0_2, wf84 y) → ((l0_3).length ≤ maxLen ∧ ∀ y ∈ l0_3, wf77 y) → ((l1).length ≤ maxLen ∧ ∀ y ∈ l1, (Lit.int .u64 y).wf = true) → ∃ k, laws_FnExactStateNo.f k a0_0 a0_1 l0_2 l0_3 l1 = some true
theorem laws_FnExactStateNo.walk (P : laws_FnExactStateNo.Pure) (a0_0 : Int) (a0_1 : Int) (A0_2 : Option Addr) (c0_2 : Nat) (l0_2 : List (S84)) (A0_3 : Option Addr) (c0_3 : Nat) (l0_3 : List (S77)) (A1 : Option Addr) (c1 : Nat) (l1 : List Int) (w : World) (hr0_2 : Kd.C k84 w A0_2 l0_2.length l0_2) (hc0_2 : l0_2.length ≤ c0_2) (hr0_3 : Kd.C k77 w A0_3 l0_3.length l0_3) (hc0_3 : l0_3.length ≤ c0_3) (hr1 : Kd.C (Kd.int .u64) w A1 l1.length l1) (hc1 : l1.length ≤ c1) (w0_0 : (Lit.int .i64 a0_0).wf = true) (w0_1 : (Lit.int .i64 a0_1).wf = true) (w0_2 : ((l0_2).length ≤ maxLen ∧ ∀ y ∈ l0_2, wf84 y)) (w0_3 : ((l0_3).length ≤ maxLen ∧ ∀ y ∈ l0_3, wf77 y)) (w1 : ((l1).length ≤ maxLen ∧ ∀ y ∈ l1, (Lit.int .u64 y).wf = true)) :
  Calls Try.prog 5 #[.agg #[.int .i64 a0_0, .int .i64 a0_1, .slice A0_2 l0_2.length c0_2, .slice A0_3 l0_3.length c0_3], .slice A1 l1.length c1] w fun e w' => e = .returned (.bool true) ∧ Below w.heap.size w w' := by
 obtain ⟨k, h⟩ := P a0_0 a0_1 l0_2 l0_3 l1 w0_0 w0_1 w0_2 w0_3 w1
 refine (laws_FnExactStateNo.calls k a0_0 a0_1 A0_2 c0_2 l0_2 A0_3 c0_3 l0_3 A1 c1 l1 true w hr0_2 hc0_2 hr0_3 hc0_3 hr1 hc1 h).mono ?_
 rintro e w' ⟨rfl, hd⟩
 exact ⟨rfl, hd⟩

end Go.Proofs.Ytkebpfpkohehgaa.X
