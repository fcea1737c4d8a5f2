/- Go functions as Lean functions, each with the proof that its call comes to just its answer. Conditions: the arguments are of their kinds. -/
import Derived.Test.YtdmngodinbelfaaX0
import Derived.Test.YtdmngodinbelfaaX1
import Derived.Test.YtdmngodinbelfaaX22
import Derived.Test.YtdmngodinbelfaaX26
import Derived.Test.YtdmngodinbelfaaX27
namespace Go.Proofs.Ytdmngodinbelfaa.X
open Go.RowKit Go.Proofs.YtdmngodinbelfaaW.PrintWords Go.Proofs.YtdmngodinbelfaaW.PrintLast Go.Proofs.YtdmngodinbelfaaW.PrintMore
attribute [local go_sem] max2_int min2_int max_two min_two max_three min_three max_four min_four   -- for this text's walks alone
set_option linter.unusedVariables false
set_option linter.unusedSimpArgs false

/-! ### laws_FnExactResolveOn: function 8 -/
mutual
def laws_FnExactResolveOn.j0 : Nat → List Int → List Int → Int → List Int → Bool → List Int → List Int → List Int → Bool → Bool → Option (Bool)
 | 0, _, _, _, _, _, _, _, _, _, _ => none
 | k + 1, x0, x1, x2, x7, x8, x9, x10, x11, x12, x52 => if x52 = true then (some false) else ((laws_toIntS.f k x0).bind fun t426 => ((laws_eqIntS.f k x9 t426).bind fun t429 => (if t429 = true then ((laws_toIntS.f k x1).bind fun t430 => ((laws_eqIntS.f k x10 t430).bind fun t433 => (if t433 = true then ((laws_markIntS.f k x9 1).bind fun bt434 => ((laws_markIntS.f k x10 bt434.1).bind fun bt436 => (if bt436.1 < 0 then (laws_FnExactResolveOn.j1 k x0 x1 x2 x7 x8 x11 true) else ((laws_eqIntS.f k x11 x7).bind fun t438 => (if t438 = true then (laws_FnExactResolveOn.j1 k x0 x1 x2 x7 x8 x11 (x12 != x8)) else (laws_FnExactResolveOn.j1 k x0 x1 x2 x7 x8 x11 true)))))) else (some false)))) else (some false))))
def laws_FnExactResolveOn.j1 : Nat → List Int → List Int → Int → List Int → Bool → List Int → Bool → Option (Bool)
 | 0, _, _, _, _, _, _, _ => none
 | k + 1, x0, x1, x2, x7, x8, x11, x81 => if x81 = true then (some false) else ((laws_markIntS.f k x11 1).bind fun bt439 => ((laws_heldIntS.f k bt439.2 1).bind fun t441 => (if t441 < 0 then (some false) else (if t441 = bt439.1 then ((laws_toIntS.f k x0).bind fun t442 => ((laws_toIntS.f k x1).bind fun t445 => ((impl_ResolveOn.f t442 t445 x2).bind fun bt448 => ((laws_eqIntS.f k bt448.1 x7).bind fun t452 => (if t452 = true then (laws_FnExactResolveOn.j2 k bt439.2 bt439.1 (bt448.2 != x8)) else (laws_FnExactResolveOn.j2 k bt439.2 bt439.1 true)))))) else (some false)))))
def laws_FnExactResolveOn.j2 : Nat → List Int → Int → Bool → Option (Bool)
 | 0, _, _, _ => none
 | k + 1, x11, x14, x110 => if x110 = true then (some false) else ((laws_heldIntS.f k x11 1).bind fun t453 => (if t453 < 0 then (some false) else (if t453 = x14 then (some true) else (some false))))
end
def laws_FnExactResolveOn.f (k : Nat) (l0 : List Int) (l1 : List Int) (a2 : Int) : Option (Bool) := if (l0.length : Int) > 1048576 then (some true) else (if (l1.length : Int) > 1048576 then (some true) else ((laws_toIntS.f k l0).bind fun t405 => ((laws_toIntS.f k l1).bind fun t408 => ((spec_ResolveOn.f k t405 t408 a2).bind fun bt411 => ((laws_toIntS.f k l0).bind fun t415 => ((laws_toIntS.f k l1).bind fun t418 => ((impl_ResolveOn.f t415 t418 a2).bind fun bt421 => ((laws_eqIntS.f k bt421.1 bt411.1).bind fun t425 => (if t425 = true then (laws_FnExactResolveOn.j0 k l0 l1 a2 bt411.1 bt411.2 t415 t418 bt421.1 bt421.2 (bt421.2 != bt411.2)) else (laws_FnExactResolveOn.j0 k l0 l1 a2 bt411.1 bt411.2 t415 t418 bt421.1 bt421.2 true))))))))))
theorem laws_FnExactResolveOn.mono_l : ∀ k, (∀ y0 y1 y2 y3 y4 y5 y6 y7 y8 y9, LeO (laws_FnExactResolveOn.j0 k y0 y1 y2 y3 y4 y5 y6 y7 y8 y9) (laws_FnExactResolveOn.j0 (k + 1) y0 y1 y2 y3 y4 y5 y6 y7 y8 y9)) ∧ (∀ y0 y1 y2 y3 y4 y5 y6, LeO (laws_FnExactResolveOn.j1 k y0 y1 y2 y3 y4 y5 y6) (laws_FnExactResolveOn.j1 (k + 1) y0 y1 y2 y3 y4 y5 y6)) ∧ (∀ y0 y1 y2, LeO (laws_FnExactResolveOn.j2 k y0 y1 y2) (laws_FnExactResolveOn.j2 (k + 1) y0 y1 y2))
 | 0 => ⟨fun _ _ _ _ _ _ _ _ _ _ r h => by simp [laws_FnExactResolveOn.j0] at h, fun _ _ _ _ _ _ _ r h => by simp [laws_FnExactResolveOn.j1] at h, fun _ _ _ r h => by simp [laws_FnExactResolveOn.j2] at h⟩
 | k + 1 => by
  obtain ⟨ih0, ih1, ih2⟩ := laws_FnExactResolveOn.mono_l k
  refine ⟨?_, ?_, ?_⟩
  ·intro y0 y1 y2 y3 y4 y5 y6 y7 y8 y9
   unfold laws_FnExactResolveOn.j0
   repeat' first
   | (with_reducible exact ih0 _ _ _ _ _ _ _ _ _ _)
   | (with_reducible exact ih1 _ _ _ _ _ _ _)
   | (with_reducible exact ih2 _ _ _)
   | (with_reducible exact laws_eqIntS.mono _ _ _)
   | (with_reducible exact laws_heldIntS.mono _ _ _)
   | (with_reducible exact laws_markIntS.mono _ _ _)
   | (with_reducible exact laws_toIntS.mono _ _)
   | (with_reducible exact spec_ResolveOn.mono _ _ _ _)
   | (with_reducible first | exact LeO.refl _ | exact LeO.none _ | refine LeO.ite ?_ ?_ | refine LeO.bind ?_ (fun _ => ?_))
   | exact ih0 _ _ _ _ _ _ _ _ _ _
   | exact ih1 _ _ _ _ _ _ _
   | exact ih2 _ _ _
   | exact laws_eqIntS.mono _ _ _
   | exact laws_heldIntS.mono _ _ _
   | exact laws_markIntS.mono _ _ _
   | exact laws_toIntS.mono _ _
   | exact spec_ResolveOn.mono _ _ _ _
   | exact LeO.none _ | refine LeO.ite ?_ ?_ | refine LeO.bind ?_ (fun _ => ?_)
  ·intro y0 y1 y2 y3 y4 y5 y6
   unfold laws_FnExactResolveOn.j1
   repeat' first
   | (with_reducible exact ih0 _ _ _ _ _ _ _ _ _ _)
   | (with_reducible exact ih1 _ _ _ _ _ _ _)
   | (with_reducible exact ih2 _ _ _)
   | (with_reducible exact laws_eqIntS.mono _ _ _)
   | (with_reducible exact laws_heldIntS.mono _ _ _)
   | (with_reducible exact laws_markIntS.mono _ _ _)
   | (with_reducible exact laws_toIntS.mono _ _)
   | (with_reducible exact spec_ResolveOn.mono _ _ _ _)
   | (with_reducible first | exact LeO.refl _ | exact LeO.none _ | refine LeO.ite ?_ ?_ | refine LeO.bind ?_ (fun _ => ?_))
   | exact ih0 _ _ _ _ _ _ _ _ _ _
   | exact ih1 _ _ _ _ _ _ _
   | exact ih2 _ _ _
   | exact laws_eqIntS.mono _ _ _
   | exact laws_heldIntS.mono _ _ _
   | exact laws_markIntS.mono _ _ _
   | exact laws_toIntS.mono _ _
   | exact spec_ResolveOn.mono _ _ _ _
   | exact LeO.none _ | refine LeO.ite ?_ ?_ | refine LeO.bind ?_ (fun _ => ?_)
  ·intro y0 y1 y2
   unfold laws_FnExactResolveOn.j2
   repeat' first
   | (with_reducible exact ih0 _ _ _ _ _ _ _ _ _ _)
   | (with_reducible exact ih1 _ _ _ _ _ _ _)
   | (with_reducible exact ih2 _ _ _)
   | (with_reducible exact laws_eqIntS.mono _ _ _)
   | (with_reducible exact laws_heldIntS.mono _ _ _)
   | (with_reducible exact laws_markIntS.mono _ _ _)
   | (with_reducible exact laws_toIntS.mono _ _)
   | (with_reducible exact spec_ResolveOn.mono _ _ _ _)
   | (with_reducible first | exact LeO.refl _ | exact LeO.none _ | refine LeO.ite ?_ ?_ | refine LeO.bind ?_ (fun _ => ?_))
   | exact ih0 _ _ _ _ _ _ _ _ _ _
   | exact ih1 _ _ _ _ _ _ _
   | exact ih2 _ _ _
   | exact laws_eqIntS.mono _ _ _
   | exact laws_heldIntS.mono _ _ _
   | exact laws_markIntS.mono _ _ _
   | exact laws_toIntS.mono _ _
   | exact spec_ResolveOn.mono _ _ _ _
   | exact LeO.none _ | refine LeO.ite ?_ ?_ | refine LeO.bind ?_ (fun _ => ?_)
theorem laws_FnExactResolveOn.mono : ∀ a0 a1 a2 k, LeO (laws_FnExactResolveOn.f k a0 a1 a2) (laws_FnExactResolveOn.f (k + 1) a0 a1 a2) := by
 intro a0 a1 a2 k
 obtain ⟨ih0, ih1, ih2⟩ := laws_FnExactResolveOn.mono_l k
 unfold laws_FnExactResolveOn.f
 repeat' first
   | (with_reducible exact ih0 _ _ _ _ _ _ _ _ _ _)
   | (with_reducible exact ih1 _ _ _ _ _ _ _)
   | (with_reducible exact ih2 _ _ _)
   | (with_reducible exact laws_eqIntS.mono _ _ _)
   | (with_reducible exact laws_heldIntS.mono _ _ _)
   | (with_reducible exact laws_markIntS.mono _ _ _)
   | (with_reducible exact laws_toIntS.mono _ _)
   | (with_reducible exact spec_ResolveOn.mono _ _ _ _)
   | (with_reducible first | exact LeO.refl _ | exact LeO.none _ | refine LeO.ite ?_ ?_ | refine LeO.bind ?_ (fun _ => ?_))
   | exact ih0 _ _ _ _ _ _ _ _ _ _
   | exact ih1 _ _ _ _ _ _ _
   | exact ih2 _ _ _
   | exact laws_eqIntS.mono _ _ _
   | exact laws_heldIntS.mono _ _ _
   | exact laws_markIntS.mono _ _ _
   | exact laws_toIntS.mono _ _
   | exact spec_ResolveOn.mono _ _ _ _
   | exact LeO.none _ | refine LeO.ite ?_ ?_ | refine LeO.bind ?_ (fun _ => ?_)
set_option maxHeartbeats 8000000 in
set_option maxRecDepth 100000 in
theorem laws_FnExactResolveOn.calls (k : Nat) (A0 : Option Addr) (c0 : Nat) (l0 : List Int) (A1 : Option Addr) (c1 : Nat) (l1 : List Int) (a2 : Int) (r : Bool) (w : World) (hr0 : Kd.C (Kd.int .i64) w A0 l0.length l0) (hc0 : l0.length ≤ c0) (hr1 : Kd.C (Kd.int .i64) w A1 l1.length l1) (hc1 : l1.length ≤ c1) (h : laws_FnExactResolveOn.f k l0 l1 a2 = some true) :
  Calls Try.prog 8 #[.slice A0 l0.length c0, .slice A1 l1.length c1, .int .i64 a2] w fun e w' => e = .returned (.bool true) ∧ Below w.heap.size w w' := by
 have HR0 := Aside0.mk hr0
 have HC0 := Aside0.mk hc0
 clear hr0 hc0
 have HR1 := Aside0.mk hr1
 have HC1 := Aside0.mk hc1
 clear hr1 hc1
 have HB := Aside0.mk (Below.refl w.heap.size w)
 have H : (if (l0.length : Int) > 1048576 then (some true) else (if (l1.length : Int) > 1048576 then (some true) else ((laws_toIntS.f k l0).bind fun t405 => ((laws_toIntS.f k l1).bind fun t408 => ((spec_ResolveOn.f k t405 t408 a2).bind fun bt411 => ((laws_toIntS.f k l0).bind fun t415 => ((laws_toIntS.f k l1).bind fun t418 => ((impl_ResolveOn.f t415 t418 a2).bind fun bt421 => ((laws_eqIntS.f k bt421.1 bt411.1).bind fun t425 => (if t425 = true then (laws_FnExactResolveOn.j0 k l0 l1 a2 bt411.1 bt411.2 t415 t418 bt421.1 bt421.2 (bt421.2 != bt411.2)) else (laws_FnExactResolveOn.j0 k l0 l1 a2 bt411.1 bt411.2 t415 t418 bt421.1 bt421.2 true))))))))))) = some true := h
 clear h
 by_cases c4 : (l0.length : Int) > 1048576
 ·rw [if_pos c4] at H
  have c4b0 : decide (1048576 < (l0.length : Int)) = true := decide_eq_true c4
  have c4b1 : decide (1048576 < l0.length) = true := decide_eq_true (by omega)
  clear c4
  go_enter Try.func8, Try.ntmps8
  go_wp2
  go_ret
  exact ⟨qE, qB⟩
 ·rw [if_neg c4] at H
  have c4b0 : decide (1048576 < (l0.length : Int)) = false := decide_eq_false c4
  have c4b1 : decide (1048576 < l0.length) = false := decide_eq_false (by omega)
  clear c4
  by_cases c5 : (l1.length : Int) > 1048576
  ·rw [if_pos c5] at H
   have c5b0 : decide (1048576 < (l1.length : Int)) = true := decide_eq_true c5
   have c5b1 : decide (1048576 < l1.length) = true := decide_eq_true (by omega)
   clear c5
   go_enter Try.func8, Try.ntmps8
   go_wp2
   go_ret
   exact ⟨qE, qB⟩
  ·rw [if_neg c5] at H
   have c5b0 : decide (1048576 < (l1.length : Int)) = false := decide_eq_false c5
   have c5b1 : decide (1048576 < l1.length) = false := decide_eq_false (by omega)
   clear c5
   replace H := Option.bind_eq_some_iff.mp H
   obtain ⟨t405, A60, H⟩ := H
   replace H : ((laws_toIntS.f k l1).bind fun t408 => ((spec_ResolveOn.f k t405 t408 a2).bind fun bt411 => ((laws_toIntS.f k l0).bind fun t415 => ((laws_toIntS.f k l1).bind fun t418 => ((impl_ResolveOn.f t415 t418 a2).bind fun bt421 => ((laws_eqIntS.f k bt421.1 bt411.1).bind fun t425 => (if t425 = true then (laws_FnExactResolveOn.j0 k l0 l1 a2 bt411.1 bt411.2 t415 t418 bt421.1 bt421.2 (bt421.2 != bt411.2)) else (laws_FnExactResolveOn.j0 k l0 l1 a2 bt411.1 bt411.2 t415 t418 bt421.1 bt421.2 true)))))))) = some true := H
   have A6 := Aside0.mk A60
   clear A60
   replace H := Option.bind_eq_some_iff.mp H
   obtain ⟨t408, A70, H⟩ := H
   replace H : ((spec_ResolveOn.f k t405 t408 a2).bind fun bt411 => ((laws_toIntS.f k l0).bind fun t415 => ((laws_toIntS.f k l1).bind fun t418 => ((impl_ResolveOn.f t415 t418 a2).bind fun bt421 => ((laws_eqIntS.f k bt421.1 bt411.1).bind fun t425 => (if t425 = true then (laws_FnExactResolveOn.j0 k l0 l1 a2 bt411.1 bt411.2 t415 t418 bt421.1 bt421.2 (bt421.2 != bt411.2)) else (laws_FnExactResolveOn.j0 k l0 l1 a2 bt411.1 bt411.2 t415 t418 bt421.1 bt421.2 true))))))) = some true := H
   have A7 := Aside0.mk A70
   clear A70
   replace H := Option.bind_eq_some_iff.mp H
   obtain ⟨⟨t411, t412⟩, A80, H⟩ := H
   replace H : ((laws_toIntS.f k l0).bind fun t415 => ((laws_toIntS.f k l1).bind fun t418 => ((impl_ResolveOn.f t415 t418 a2).bind fun bt421 => ((laws_eqIntS.f k bt421.1 t411).bind fun t425 => (if t425 = true then (laws_FnExactResolveOn.j0 k l0 l1 a2 t411 t412 t415 t418 bt421.1 bt421.2 (bt421.2 != t412)) else (laws_FnExactResolveOn.j0 k l0 l1 a2 t411 t412 t415 t418 bt421.1 bt421.2 true)))))) = some true := H
   have A8 := Aside0.mk A80
   clear A80
   replace H := Option.bind_eq_some_iff.mp H
   obtain ⟨t415, A90, H⟩ := H
   replace H : ((laws_toIntS.f k l1).bind fun t418 => ((impl_ResolveOn.f t415 t418 a2).bind fun bt421 => ((laws_eqIntS.f k bt421.1 t411).bind fun t425 => (if t425 = true then (laws_FnExactResolveOn.j0 k l0 l1 a2 t411 t412 t415 t418 bt421.1 bt421.2 (bt421.2 != t412)) else (laws_FnExactResolveOn.j0 k l0 l1 a2 t411 t412 t415 t418 bt421.1 bt421.2 true))))) = some true := H
   have A9 := Aside0.mk A90
   clear A90
   replace H := Option.bind_eq_some_iff.mp H
   obtain ⟨t418, A100, H⟩ := H
   replace H : ((impl_ResolveOn.f t415 t418 a2).bind fun bt421 => ((laws_eqIntS.f k bt421.1 t411).bind fun t425 => (if t425 = true then (laws_FnExactResolveOn.j0 k l0 l1 a2 t411 t412 t415 t418 bt421.1 bt421.2 (bt421.2 != t412)) else (laws_FnExactResolveOn.j0 k l0 l1 a2 t411 t412 t415 t418 bt421.1 bt421.2 true)))) = some true := H
   have A10 := Aside0.mk A100
   clear A100
   replace H := Option.bind_eq_some_iff.mp H
   obtain ⟨⟨t421, t422⟩, A110, H⟩ := H
   replace H : ((laws_eqIntS.f k t421 t411).bind fun t425 => (if t425 = true then (laws_FnExactResolveOn.j0 k l0 l1 a2 t411 t412 t415 t418 t421 t422 (t422 != t412)) else (laws_FnExactResolveOn.j0 k l0 l1 a2 t411 t412 t415 t418 t421 t422 true))) = some true := H
   have A11 := Aside0.mk A110
   clear A110
   have HC12 := Aside0.mk H
   clear H
   go_enter Try.func8, Try.ntmps8
   go_upto_region 9 with (first | ((with_reducible refine gate_callee (f := 21) rfl ?_); refine goesL_ (some 26) rfl rfl Try.func21 (by kernel_rfl) rfl #[.slice A0 l0.length c0] rfl qG ?_; (with_reducible refine (laws_toIntS.calls k _ _ l0 t405 _ ?side1 ?side2 A6.out).mono ?_); (case side1 => exact qC HR0.out); (case side2 => exact HC0.out); rintro e w13 ⟨v406, rfl, ho0, hb⟩; refine ⟨_, rfl, ?_⟩; have n0_ := Aside0.mk (Kd.R_lower ho0 (below_size (qB))); have n1_ := Aside0.mk (below_step (qB) hb); clear HB; have HO407 := n0_; have HB := n1_; clear n0_ n1_; (try clear hb); (try clear hb2); (try clear hk); (try clear hi); (try clear ho0)) | ((with_reducible refine gate_callee (f := 21) rfl ?_); refine goesL_ (some 28) rfl rfl Try.func21 (by kernel_rfl) rfl #[.slice A1 l1.length c1] rfl qG ?_; (with_reducible refine (laws_toIntS.calls k _ _ l1 t408 _ ?side1 ?side2 A7.out).mono ?_); (case side1 => exact qC (Kd.C_below HR1.out HB.out)); (case side2 => exact HC1.out); rintro e w14 ⟨v409, rfl, ho0, hb⟩; refine ⟨_, rfl, ?_⟩; have n0_ := Aside0.mk (Kd.R_elder' (qR HO407.out) (Kd.R_base ho0) hb); have n1_ := Aside0.mk (Kd.R_lower (Kd.R_new' ho0 (Kd.R_lt (qR HO407.out))) (below_size (qB))); have n2_ := Aside0.mk (below_step (qB) hb); clear HO407; clear HB; have HO407 := n0_; have HO410 := n1_; have HB := n2_; clear n0_ n1_ n2_; (try clear hb); (try clear hb2); (try clear hk); (try clear hi); (try clear ho0); obtain ⟨Ao15, co15, eo15⟩ := Kd.R_slice HO407.out; subst eo15; obtain ⟨Ao16, co16, eo16⟩ := Kd.R_slice HO410.out; subst eo16) | ((with_reducible refine gate_callee (f := 31) rfl ?_); refine goesL_ (some 30) rfl rfl Try.func31 (by kernel_rfl) rfl #[.slice Ao15 t405.length co15, .slice Ao16 t408.length co16, .int .i64 a2] rfl qG ?_; (with_reducible refine (spec_ResolveOn.calls k _ _ t405 _ _ t408 a2 t411 t412 _ ?side1 ?side2 ?side3 ?side4 A8.out).mono ?_); (case side1 => repeat (first | exact (Kd.R_reads' HO407.out).2.2 | (with_reducible refine Kd.C_alloc ?_ _) | (with_reducible refine Kd.C_drewN ?_ _) | (with_reducible refine Kd.C_drew ?_))); (case side2 => exact (Kd.R_reads' HO407.out).2.1); (case side3 => repeat (first | exact (Kd.R_reads' HO410.out).2.2 | (with_reducible refine Kd.C_alloc ?_ _) | (with_reducible refine Kd.C_drewN ?_ _) | (with_reducible refine Kd.C_drew ?_))); (case side4 => exact (Kd.R_reads' HO410.out).2.1); rintro e w17 ⟨v413, rfl, ho0, hb⟩; refine ⟨_, rfl, ?_⟩; have n0_ := Aside0.mk (Kd.R_elder' (qR HO407.out) (Kd.R_base ho0) hb); have n1_ := Aside0.mk (Kd.R_elder' (qR HO410.out) (Kd.R_base ho0) hb); have n2_ := Aside0.mk (Kd.R_lower (Kd.R_new' (Kd.R_new' ho0 (Kd.R_lt (qR HO407.out))) (Kd.R_lt (qR HO410.out))) (below_size (qB))); have n3_ := Aside0.mk (below_step (qB) hb); clear HO407; clear HO410; clear HB; have HO407 := n0_; have HO410 := n1_; have HO414 := n2_; have HB := n3_; clear n0_ n1_ n2_ n3_; (try clear hb); (try clear hb2); (try clear hk); (try clear hi); (try clear ho0)) | ((with_reducible refine gate_callee (f := 21) rfl ?_); refine goesL_ (some 34) rfl rfl Try.func21 (by kernel_rfl) rfl #[.slice A0 l0.length c0] rfl qG ?_; (with_reducible refine (laws_toIntS.calls k _ _ l0 t415 _ ?side1 ?side2 A9.out).mono ?_); (case side1 => exact qC (Kd.C_below HR0.out HB.out)); (case side2 => exact HC0.out); rintro e w18 ⟨v416, rfl, ho0, hb⟩; refine ⟨_, rfl, ?_⟩; have n0_ := Aside0.mk (Kd.R_elder' (qR HO407.out) (Kd.R_base ho0) hb); have n1_ := Aside0.mk (Kd.R_elder' (qR HO410.out) (Kd.R_base ho0) hb); have n2_ := Aside0.mk (Kd.R_elder' (qR HO414.out) (Kd.R_base ho0) hb); have n3_ := Aside0.mk (Kd.R_lower (Kd.R_new' (Kd.R_new' (Kd.R_new' ho0 (Kd.R_lt (qR HO407.out))) (Kd.R_lt (qR HO410.out))) (Kd.R_lt (qR HO414.out))) (below_size (qB))); have n4_ := Aside0.mk (below_step (qB) hb); clear HO407; clear HO410; clear HO414; clear HB; have HO407 := n0_; have HO410 := n1_; have HO414 := n2_; have HO417 := n3_; have HB := n4_; clear n0_ n1_ n2_ n3_ n4_; (try clear hb); (try clear hb2); (try clear hk); (try clear hi); (try clear ho0)) | ((with_reducible refine gate_callee (f := 21) rfl ?_); refine goesL_ (some 36) rfl rfl Try.func21 (by kernel_rfl) rfl #[.slice A1 l1.length c1] rfl qG ?_; (with_reducible refine (laws_toIntS.calls k _ _ l1 t418 _ ?side1 ?side2 A10.out).mono ?_); (case side1 => exact qC (Kd.C_below HR1.out HB.out)); (case side2 => exact HC1.out); rintro e w19 ⟨v419, rfl, ho0, hb⟩; refine ⟨_, rfl, ?_⟩; have n0_ := Aside0.mk (Kd.R_elder' (qR HO407.out) (Kd.R_base ho0) hb); have n1_ := Aside0.mk (Kd.R_elder' (qR HO410.out) (Kd.R_base ho0) hb); have n2_ := Aside0.mk (Kd.R_elder' (qR HO414.out) (Kd.R_base ho0) hb); have n3_ := Aside0.mk (Kd.R_elder' (qR HO417.out) (Kd.R_base ho0) hb); have n4_ := Aside0.mk (Kd.R_lower (Kd.R_new' (Kd.R_new' (Kd.R_new' (Kd.R_new' ho0 (Kd.R_lt (qR HO407.out))) (Kd.R_lt (qR HO410.out))) (Kd.R_lt (qR HO414.out))) (Kd.R_lt (qR HO417.out))) (below_size (qB))); have n5_ := Aside0.mk (below_step (qB) hb); clear HO407; clear HO410; clear HO414; clear HO417; clear HB; have HO407 := n0_; have HO410 := n1_; have HO414 := n2_; have HO417 := n3_; have HO420 := n4_; have HB := n5_; clear n0_ n1_ n2_ n3_ n4_ n5_; (try clear hb); (try clear hb2); (try clear hk); (try clear hi); (try clear ho0); obtain ⟨Ao20, co20, eo20⟩ := Kd.R_slice HO417.out; subst eo20; obtain ⟨Ao21, co21, eo21⟩ := Kd.R_slice HO420.out; subst eo21) | ((with_reducible refine gate_callee (f := 32) rfl ?_); refine goesL_ (some 41) rfl rfl Try.func32 (by kernel_rfl) rfl #[.slice Ao20 t415.length co20, .slice Ao21 t418.length co21, .int .i64 a2] rfl qG ?_; (with_reducible refine (impl_ResolveOn.calls _ _ t415 _ _ t418 a2 t421 t422 _ ?side1 ?side2 ?side3 ?side4 A11.out).mono ?_); (case side1 => repeat (first | exact (Kd.R_reads' HO417.out).2.2 | (with_reducible refine Kd.C_alloc ?_ _) | (with_reducible refine Kd.C_drewN ?_ _) | (with_reducible refine Kd.C_drew ?_))); (case side2 => exact (Kd.R_reads' HO417.out).2.1); (case side3 => repeat (first | exact (Kd.R_reads' HO420.out).2.2 | (with_reducible refine Kd.C_alloc ?_ _) | (with_reducible refine Kd.C_drewN ?_ _) | (with_reducible refine Kd.C_drew ?_))); (case side4 => exact (Kd.R_reads' HO420.out).2.1); rintro e w22 ⟨v423, rfl, ho0, hb⟩; refine ⟨_, rfl, ?_⟩; have n0_ := Aside0.mk (Kd.R_elder' (qR HO407.out) (Kd.R_base ho0) hb); have n1_ := Aside0.mk (Kd.R_elder' (qR HO410.out) (Kd.R_base ho0) hb); have n2_ := Aside0.mk (Kd.R_elder' (qR HO414.out) (Kd.R_base ho0) hb); have n3_ := Aside0.mk (Kd.R_elder' (qR HO417.out) (Kd.R_base ho0) hb); have n4_ := Aside0.mk (Kd.R_elder' (qR HO420.out) (Kd.R_base ho0) hb); have n5_ := Aside0.mk (Kd.R_lower (Kd.R_new' (Kd.R_new' (Kd.R_new' (Kd.R_new' (Kd.R_new' ho0 (Kd.R_lt (qR HO407.out))) (Kd.R_lt (qR HO410.out))) (Kd.R_lt (qR HO414.out))) (Kd.R_lt (qR HO417.out))) (Kd.R_lt (qR HO420.out))) (below_size (qB))); have n6_ := Aside0.mk (below_step (qB) hb); clear HO407; clear HO410; clear HO414; clear HO417; clear HO420; clear HB; have HO407 := n0_; have HO410 := n1_; have HO414 := n2_; have HO417 := n3_; have HO420 := n4_; have HO424 := n5_; have HB := n6_; clear n0_ n1_ n2_ n3_ n4_ n5_ n6_; (try clear hb); (try clear hb2); (try clear hk); (try clear hi); (try clear ho0)))
   (try simp only [Act.put, List.setIfInBounds_toArray, List.set_cons_zero, List.set_cons_succ])
   go_cut [52] (fun v52 wc => ∃ (kq : Nat) (x52_11 : Bool), v52 = .bool x52_11 ∧ Aside0 (laws_FnExactResolveOn.j0 kq l0 l1 a2 t411 t412 t415 t418 t421 t422 x52_11 = some true) ∧ Aside0 (kq ≤ k) ∧ Aside0 (Kd.R (Kd.int .i64) 3 wc w.heap.size (fun k_ => some k_ ≠ ((.slice Ao20 t415.length co20) : Value).ownBlock ∧ some k_ ≠ ((.slice Ao21 t418.length co21) : Value).ownBlock ∧ some k_ ≠ (v423 : Value).ownBlock) v413 t411) ∧ Aside0 (Kd.R (Kd.int .i64) 3 wc w.heap.size (fun k_ => some k_ ≠ (v413 : Value).ownBlock ∧ some k_ ≠ ((.slice Ao21 t418.length co21) : Value).ownBlock ∧ some k_ ≠ (v423 : Value).ownBlock) (.slice Ao20 t415.length co20) t415) ∧ Aside0 (Kd.R (Kd.int .i64) 3 wc w.heap.size (fun k_ => some k_ ≠ (v413 : Value).ownBlock ∧ some k_ ≠ ((.slice Ao20 t415.length co20) : Value).ownBlock ∧ some k_ ≠ (v423 : Value).ownBlock) (.slice Ao21 t418.length co21) t418) ∧ Aside0 (Kd.R (Kd.int .i64) 3 wc w.heap.size (fun k_ => some k_ ≠ (v413 : Value).ownBlock ∧ some k_ ≠ ((.slice Ao20 t415.length co20) : Value).ownBlock ∧ some k_ ≠ ((.slice Ao21 t418.length co21) : Value).ownBlock) v423 t421) ∧ Aside0 (Below w.heap.size w wc))
   case first =>
    have H := HC12.out
    clear HC12
    replace H := Option.bind_eq_some_iff.mp H
    obtain ⟨t425, A230, H⟩ := H
    replace H : (if t425 = true then (laws_FnExactResolveOn.j0 k l0 l1 a2 t411 t412 t415 t418 t421 t422 (t422 != t412)) else (laws_FnExactResolveOn.j0 k l0 l1 a2 t411 t412 t415 t418 t421 t422 true)) = some true := H
    have A23 := Aside0.mk A230
    clear A230
    by_cases c24 : t425 = true
    ·subst c24
     have H1 : (laws_FnExactResolveOn.j0 k l0 l1 a2 t411 t412 t415 t418 t421 t422 (t422 != t412)) = some true := by rw [if_pos rfl] at H; exact H
     clear H
     have H := H1
     clear H1
     have H' := Aside0.mk H
     clear H
     obtain ⟨Ao25, co25, eo25⟩ := Kd.R_slice HO424.out
     subst eo25
     obtain ⟨Ao26, co26, eo26⟩ := Kd.R_slice HO414.out
     subst eo26
     go_wp2_with (first | ((with_reducible refine gate_callee (f := 23) rfl ?_); refine goesL_ (some 46) rfl rfl Try.func23 (by kernel_rfl) rfl #[.slice Ao25 t421.length co25, .slice Ao26 t411.length co26] rfl qG ?_; (with_reducible refine (laws_eqIntS.calls k _ _ t421 _ _ t411 true _ ?side1 ?side2 ?side3 ?side4 A23.out).mono ?_); (case side1 => repeat (first | exact (Kd.R_reads' HO424.out).2.2 | (with_reducible refine Kd.C_alloc ?_ _) | (with_reducible refine Kd.C_drewN ?_ _) | (with_reducible refine Kd.C_drew ?_))); (case side2 => exact (Kd.R_reads' HO424.out).2.1); (case side3 => repeat (first | exact (Kd.R_reads' HO414.out).2.2 | (with_reducible refine Kd.C_alloc ?_ _) | (with_reducible refine Kd.C_drewN ?_ _) | (with_reducible refine Kd.C_drew ?_))); (case side4 => exact (Kd.R_reads' HO414.out).2.1); rintro e w' ⟨rfl, ⟨nd, rfl⟩⟩; refine ⟨_, rfl, ?_⟩))
     go_meet
     case rel => exact ⟨_, ((t422 != t412)), qS, H', ⟨by first | omega | exact Nat.le_refl _⟩, ⟨by (with_reducible repeat (first | apply Kd.R_alloc | apply Kd.R_drewN | apply Kd.R_drew)); exact Kd.R_mono HO414.out (fun _ hk => ⟨hk.1.1.2, ⟨hk.1.2, hk.2⟩⟩)⟩, ⟨by (with_reducible repeat (first | apply Kd.R_alloc | apply Kd.R_drewN | apply Kd.R_drew)); exact Kd.R_mono HO417.out (fun _ hk => ⟨hk.1.1.2, ⟨hk.1.2, hk.2⟩⟩)⟩, ⟨by (with_reducible repeat (first | apply Kd.R_alloc | apply Kd.R_drewN | apply Kd.R_drew)); exact Kd.R_mono HO420.out (fun _ hk => ⟨hk.1.1.2, ⟨hk.1.2, hk.2⟩⟩)⟩, ⟨by (with_reducible repeat (first | apply Kd.R_alloc | apply Kd.R_drewN | apply Kd.R_drew)); exact Kd.R_mono HO424.out (fun _ hk => ⟨hk.1.1.2, ⟨hk.1.2, hk.2⟩⟩)⟩, ⟨qB⟩⟩
    ·replace c24 := Bool.eq_false_iff.mpr c24
     subst c24
     have H1 : (laws_FnExactResolveOn.j0 k l0 l1 a2 t411 t412 t415 t418 t421 t422 true) = some true := by rw [if_neg (show ¬ (false = true) by decide)] at H; exact H
     exact absurd H1 (by cases k <;> simp [laws_FnExactResolveOn.j0])
   case rest =>
    clear HC12
    try clear c1
    try clear c2
    try clear p2
    try clear c3
    try clear c4
    try clear c4b0
    try clear c4b1
    try clear c5
    try clear c5b0
    try clear c5b1
    try clear c8
    try clear c21
    try clear c23
    try clear c24
    obtain ⟨kq, x52_11, rfl, HA, HJ11, HO_7, HO_9, HO_10, HO_11, HB⟩ := hcut
    cases kq with
    | zero => exact absurd HA.out (by simp [laws_FnExactResolveOn.j0])
    | succ kj11 =>
     have H := HA.out
     clear HA
     simp only [laws_FnExactResolveOn.j0] at H
     by_cases c29 : x52_11 = true
     ·subst c29
      have H1 : (some false) = some true := by rw [if_pos rfl] at H; exact H
      exact absurd H1 (by simp)
     ·replace c29 := Bool.eq_false_iff.mpr c29
      subst c29
      have H1 : ((laws_toIntS.f kj11 l0).bind fun t426 => ((laws_eqIntS.f kj11 t415 t426).bind fun t429 => (if t429 = true then ((laws_toIntS.f kj11 l1).bind fun t430 => ((laws_eqIntS.f kj11 t418 t430).bind fun t433 => (if t433 = true then ((laws_markIntS.f kj11 t415 1).bind fun bt434 => ((laws_markIntS.f kj11 t418 bt434.1).bind fun bt436 => (if bt436.1 < 0 then (laws_FnExactResolveOn.j1 kj11 l0 l1 a2 t411 t412 t421 true) else ((laws_eqIntS.f kj11 t421 t411).bind fun t438 => (if t438 = true then (laws_FnExactResolveOn.j1 kj11 l0 l1 a2 t411 t412 t421 (t422 != t412)) else (laws_FnExactResolveOn.j1 kj11 l0 l1 a2 t411 t412 t421 true)))))) else (some false)))) else (some false)))) = some true := by rw [if_neg (show ¬ (false = true) by decide)] at H; exact H
      clear H
      have H := H1
      clear H1
      replace H := Option.bind_eq_some_iff.mp H
      obtain ⟨t426, A300, H⟩ := H
      replace H : ((laws_eqIntS.f kj11 t415 t426).bind fun t429 => (if t429 = true then ((laws_toIntS.f kj11 l1).bind fun t430 => ((laws_eqIntS.f kj11 t418 t430).bind fun t433 => (if t433 = true then ((laws_markIntS.f kj11 t415 1).bind fun bt434 => ((laws_markIntS.f kj11 t418 bt434.1).bind fun bt436 => (if bt436.1 < 0 then (laws_FnExactResolveOn.j1 kj11 l0 l1 a2 t411 t412 t421 true) else ((laws_eqIntS.f kj11 t421 t411).bind fun t438 => (if t438 = true then (laws_FnExactResolveOn.j1 kj11 l0 l1 a2 t411 t412 t421 (t422 != t412)) else (laws_FnExactResolveOn.j1 kj11 l0 l1 a2 t411 t412 t421 true)))))) else (some false)))) else (some false))) = some true := H
      have A30 := Aside0.mk A300
      clear A300
      replace H := Option.bind_eq_some_iff.mp H
      obtain ⟨t429, A310, H⟩ := H
      replace H : (if t429 = true then ((laws_toIntS.f kj11 l1).bind fun t430 => ((laws_eqIntS.f kj11 t418 t430).bind fun t433 => (if t433 = true then ((laws_markIntS.f kj11 t415 1).bind fun bt434 => ((laws_markIntS.f kj11 t418 bt434.1).bind fun bt436 => (if bt436.1 < 0 then (laws_FnExactResolveOn.j1 kj11 l0 l1 a2 t411 t412 t421 true) else ((laws_eqIntS.f kj11 t421 t411).bind fun t438 => (if t438 = true then (laws_FnExactResolveOn.j1 kj11 l0 l1 a2 t411 t412 t421 (t422 != t412)) else (laws_FnExactResolveOn.j1 kj11 l0 l1 a2 t411 t412 t421 true)))))) else (some false)))) else (some false)) = some true := H
      have A31 := Aside0.mk A310
      clear A310
      by_cases c32 : t429 = true
      ·subst c32
       have H1 : ((laws_toIntS.f kj11 l1).bind fun t430 => ((laws_eqIntS.f kj11 t418 t430).bind fun t433 => (if t433 = true then ((laws_markIntS.f kj11 t415 1).bind fun bt434 => ((laws_markIntS.f kj11 t418 bt434.1).bind fun bt436 => (if bt436.1 < 0 then (laws_FnExactResolveOn.j1 kj11 l0 l1 a2 t411 t412 t421 true) else ((laws_eqIntS.f kj11 t421 t411).bind fun t438 => (if t438 = true then (laws_FnExactResolveOn.j1 kj11 l0 l1 a2 t411 t412 t421 (t422 != t412)) else (laws_FnExactResolveOn.j1 kj11 l0 l1 a2 t411 t412 t421 true)))))) else (some false)))) = some true := by rw [if_pos rfl] at H; exact H
       clear H
       have H := H1
       clear H1
       replace H := Option.bind_eq_some_iff.mp H
       obtain ⟨t430, A330, H⟩ := H
       replace H : ((laws_eqIntS.f kj11 t418 t430).bind fun t433 => (if t433 = true then ((laws_markIntS.f kj11 t415 1).bind fun bt434 => ((laws_markIntS.f kj11 t418 bt434.1).bind fun bt436 => (if bt436.1 < 0 then (laws_FnExactResolveOn.j1 kj11 l0 l1 a2 t411 t412 t421 true) else ((laws_eqIntS.f kj11 t421 t411).bind fun t438 => (if t438 = true then (laws_FnExactResolveOn.j1 kj11 l0 l1 a2 t411 t412 t421 (t422 != t412)) else (laws_FnExactResolveOn.j1 kj11 l0 l1 a2 t411 t412 t421 true)))))) else (some false))) = some true := H
       have A33 := Aside0.mk A330
       clear A330
       replace H := Option.bind_eq_some_iff.mp H
       obtain ⟨t433, A340, H⟩ := H
       replace H : (if t433 = true then ((laws_markIntS.f kj11 t415 1).bind fun bt434 => ((laws_markIntS.f kj11 t418 bt434.1).bind fun bt436 => (if bt436.1 < 0 then (laws_FnExactResolveOn.j1 kj11 l0 l1 a2 t411 t412 t421 true) else ((laws_eqIntS.f kj11 t421 t411).bind fun t438 => (if t438 = true then (laws_FnExactResolveOn.j1 kj11 l0 l1 a2 t411 t412 t421 (t422 != t412)) else (laws_FnExactResolveOn.j1 kj11 l0 l1 a2 t411 t412 t421 true)))))) else (some false)) = some true := H
       have A34 := Aside0.mk A340
       clear A340
       by_cases c35 : t433 = true
       ·subst c35
        have H1 : ((laws_markIntS.f kj11 t415 1).bind fun bt434 => ((laws_markIntS.f kj11 t418 bt434.1).bind fun bt436 => (if bt436.1 < 0 then (laws_FnExactResolveOn.j1 kj11 l0 l1 a2 t411 t412 t421 true) else ((laws_eqIntS.f kj11 t421 t411).bind fun t438 => (if t438 = true then (laws_FnExactResolveOn.j1 kj11 l0 l1 a2 t411 t412 t421 (t422 != t412)) else (laws_FnExactResolveOn.j1 kj11 l0 l1 a2 t411 t412 t421 true)))))) = some true := by rw [if_pos rfl] at H; exact H
        clear H
        have H := H1
        clear H1
        replace H := Option.bind_eq_some_iff.mp H
        obtain ⟨⟨t434, t435⟩, A360, H⟩ := H
        replace H : ((laws_markIntS.f kj11 t418 t434).bind fun bt436 => (if bt436.1 < 0 then (laws_FnExactResolveOn.j1 kj11 l0 l1 a2 t411 t412 t421 true) else ((laws_eqIntS.f kj11 t421 t411).bind fun t438 => (if t438 = true then (laws_FnExactResolveOn.j1 kj11 l0 l1 a2 t411 t412 t421 (t422 != t412)) else (laws_FnExactResolveOn.j1 kj11 l0 l1 a2 t411 t412 t421 true))))) = some true := H
        have A36 := Aside0.mk A360
        clear A360
        replace H := Option.bind_eq_some_iff.mp H
        obtain ⟨⟨t436, t437⟩, A370, H⟩ := H
        replace H : (if t436 < 0 then (laws_FnExactResolveOn.j1 kj11 l0 l1 a2 t411 t412 t421 true) else ((laws_eqIntS.f kj11 t421 t411).bind fun t438 => (if t438 = true then (laws_FnExactResolveOn.j1 kj11 l0 l1 a2 t411 t412 t421 (t422 != t412)) else (laws_FnExactResolveOn.j1 kj11 l0 l1 a2 t411 t412 t421 true)))) = some true := H
        have A37 := Aside0.mk A370
        clear A370
        have HC38 := Aside0.mk H
        clear H
        go_upto_region 18 with (first | ((with_reducible refine gate_callee (f := 21) rfl ?_); refine goesL_ (some 55) rfl rfl Try.func21 (by kernel_rfl) rfl #[.slice A0 l0.length c0] rfl qG ?_; (with_reducible refine (laws_toIntS.calls kj11 _ _ l0 t426 _ ?side1 ?side2 A30.out).mono ?_); (case side1 => exact qC (Kd.C_below HR0.out HB.out)); (case side2 => exact HC0.out); rintro e w39 ⟨v427, rfl, ho0, hb⟩; refine ⟨_, rfl, ?_⟩; have n0_ := Aside0.mk (Kd.R_elder' (qR HO_7.out) (Kd.R_base ho0) hb); have n1_ := Aside0.mk (Kd.R_elder' (qR HO_9.out) (Kd.R_base ho0) hb); have n2_ := Aside0.mk (Kd.R_elder' (qR HO_10.out) (Kd.R_base ho0) hb); have n3_ := Aside0.mk (Kd.R_elder' (qR HO_11.out) (Kd.R_base ho0) hb); have n4_ := Aside0.mk (Kd.R_lower (Kd.R_new' (Kd.R_new' (Kd.R_new' (Kd.R_new' ho0 (Kd.R_lt (qR HO_7.out))) (Kd.R_lt (qR HO_9.out))) (Kd.R_lt (qR HO_10.out))) (Kd.R_lt (qR HO_11.out))) (below_size (qB))); have n5_ := Aside0.mk (below_step (qB) hb); clear HO_7; clear HO_9; clear HO_10; clear HO_11; clear HB; have HO_7 := n0_; have HO_9 := n1_; have HO_10 := n2_; have HO_11 := n3_; have HO428 := n4_; have HB := n5_; clear n0_ n1_ n2_ n3_ n4_ n5_; (try clear hb); (try clear hb2); (try clear hk); (try clear hi); (try clear ho0); obtain ⟨Ao40, co40, eo40⟩ := Kd.R_slice HO428.out; subst eo40) | ((with_reducible refine gate_callee (f := 23) rfl ?_); refine goesL_ (some 56) rfl rfl Try.func23 (by kernel_rfl) rfl #[.slice Ao20 t415.length co20, .slice Ao40 t426.length co40] rfl qG ?_; (with_reducible refine (laws_eqIntS.calls kj11 _ _ t415 _ _ t426 true _ ?side1 ?side2 ?side3 ?side4 A31.out).mono ?_); (case side1 => repeat (first | exact (Kd.R_reads' HO_9.out).2.2 | (with_reducible refine Kd.C_alloc ?_ _) | (with_reducible refine Kd.C_drewN ?_ _) | (with_reducible refine Kd.C_drew ?_))); (case side2 => exact (Kd.R_reads' HO_9.out).2.1); (case side3 => repeat (first | exact (Kd.R_reads' HO428.out).2.2 | (with_reducible refine Kd.C_alloc ?_ _) | (with_reducible refine Kd.C_drewN ?_ _) | (with_reducible refine Kd.C_drew ?_))); (case side4 => exact (Kd.R_reads' HO428.out).2.1); rintro e w' ⟨rfl, ⟨nd, rfl⟩⟩; refine ⟨_, rfl, ?_⟩) | ((with_reducible refine gate_callee (f := 21) rfl ?_); refine goesL_ (some 60) rfl rfl Try.func21 (by kernel_rfl) rfl #[.slice A1 l1.length c1] rfl qG ?_; (with_reducible refine (laws_toIntS.calls kj11 _ _ l1 t430 _ ?side1 ?side2 A33.out).mono ?_); (case side1 => repeat (first | exact (Kd.C_below HR1.out (qB)) | (with_reducible refine Kd.C_alloc ?_ _) | (with_reducible refine Kd.C_drewN ?_ _) | (with_reducible refine Kd.C_drew ?_))); (case side2 => exact HC1.out); rintro e w41 ⟨v431, rfl, ho0, hb⟩; refine ⟨_, rfl, ?_⟩; have n0_ := Aside0.mk (Kd.R_elder' (qR HO_7.out) (Kd.R_base ho0) hb); have n1_ := Aside0.mk (Kd.R_elder' (qR HO_9.out) (Kd.R_base ho0) hb); have n2_ := Aside0.mk (Kd.R_elder' (qR HO_10.out) (Kd.R_base ho0) hb); have n3_ := Aside0.mk (Kd.R_elder' (qR HO_11.out) (Kd.R_base ho0) hb); have n4_ := Aside0.mk (Kd.R_elder' (qR HO428.out) (Kd.R_base ho0) hb); have n5_ := Aside0.mk (Kd.R_lower (Kd.R_new' (Kd.R_new' (Kd.R_new' (Kd.R_new' (Kd.R_new' ho0 (Kd.R_lt (qR HO_7.out))) (Kd.R_lt (qR HO_9.out))) (Kd.R_lt (qR HO_10.out))) (Kd.R_lt (qR HO_11.out))) (Kd.R_lt (qR HO428.out))) (below_size (qB))); have n6_ := Aside0.mk (below_step (qB) hb); clear HO_7; clear HO_9; clear HO_10; clear HO_11; clear HO428; clear HB; have HO_7 := n0_; have HO_9 := n1_; have HO_10 := n2_; have HO_11 := n3_; have HO428 := n4_; have HO432 := n5_; have HB := n6_; clear n0_ n1_ n2_ n3_ n4_ n5_ n6_; (try clear hb); (try clear hb2); (try clear hk); (try clear hi); (try clear ho0); obtain ⟨Ao42, co42, eo42⟩ := Kd.R_slice HO432.out; subst eo42) | ((with_reducible refine gate_callee (f := 23) rfl ?_); refine goesL_ (some 61) rfl rfl Try.func23 (by kernel_rfl) rfl #[.slice Ao21 t418.length co21, .slice Ao42 t430.length co42] rfl qG ?_; (with_reducible refine (laws_eqIntS.calls kj11 _ _ t418 _ _ t430 true _ ?side1 ?side2 ?side3 ?side4 A34.out).mono ?_); (case side1 => repeat (first | exact (Kd.R_reads' HO_10.out).2.2 | (with_reducible refine Kd.C_alloc ?_ _) | (with_reducible refine Kd.C_drewN ?_ _) | (with_reducible refine Kd.C_drew ?_))); (case side2 => exact (Kd.R_reads' HO_10.out).2.1); (case side3 => repeat (first | exact (Kd.R_reads' HO432.out).2.2 | (with_reducible refine Kd.C_alloc ?_ _) | (with_reducible refine Kd.C_drewN ?_ _) | (with_reducible refine Kd.C_drew ?_))); (case side4 => exact (Kd.R_reads' HO432.out).2.1); rintro e w' ⟨rfl, ⟨nd, rfl⟩⟩; refine ⟨_, rfl, ?_⟩) | ((with_reducible refine gate_callee (f := 25) rfl ?_); refine goesL_ (some 65) rfl rfl Try.func25 (by kernel_rfl) rfl #[.slice Ao20 t415.length co20, .int .i64 1] rfl qG ?_; (with_reducible refine (laws_markIntS.calls kj11 (fun k_ => some k_ = (.slice Ao20 t415.length co20 : Value).ownBlock) (.slice Ao20 t415.length co20) t415 1 t434 t435 w _ ?side1 ?side2 A36.out).mono ?_); (case side1 => repeat (first | (with_reducible first | exact HB.out | apply below_alloc | apply pw_below_drewN | apply below_drew1) | exact HB.out)); (case side2 => exact Kd.R_tight rfl HO_9.out); rintro e w43 ⟨rfl, hy0, hb, hkp⟩; refine ⟨_, rfl, ?_⟩; have n0_ := Aside0.mk (Kd.R_mono (ok' := fun k_ => some k_ ≠ (.slice Ao20 t415.length co20 : Value).ownBlock ∧ some k_ ≠ (.slice Ao21 t418.length co21 : Value).ownBlock ∧ some k_ ≠ (v423 : Value).ownBlock ∧ some k_ ≠ (.slice Ao40 t426.length co40 : Value).ownBlock ∧ some k_ ≠ (.slice Ao42 t430.length co42 : Value).ownBlock) (Kd.R_keptB (HO_7.out) hkp (fun k_ hk_ hs_ => (hk_.1.1.1) hs_)) (fun k_ hk_ => ⟨hk_.1.1.1.1, hk_.1.1.1.2.1, hk_.1.1.1.2.2, hk_.1.1.2, hk_.1.2⟩)); have n1_ := Aside0.mk (Kd.R_reok rfl hy0 (fun k_ e_ => HO_9.out.1 k_ e_)); have n2_ := Aside0.mk (Kd.R_mono (ok' := fun k_ => some k_ ≠ (v413 : Value).ownBlock ∧ some k_ ≠ (.slice Ao20 t415.length co20 : Value).ownBlock ∧ some k_ ≠ (v423 : Value).ownBlock ∧ some k_ ≠ (.slice Ao40 t426.length co40 : Value).ownBlock ∧ some k_ ≠ (.slice Ao42 t430.length co42 : Value).ownBlock) (Kd.R_keptB (HO_10.out) hkp (fun k_ hk_ hs_ => (hk_.1.1.2.1) hs_)) (fun k_ hk_ => ⟨hk_.1.1.1.1, hk_.1.1.1.2.1, hk_.1.1.1.2.2, hk_.1.1.2, hk_.1.2⟩)); have n3_ := Aside0.mk (Kd.R_mono (ok' := fun k_ => some k_ ≠ (v413 : Value).ownBlock ∧ some k_ ≠ (.slice Ao20 t415.length co20 : Value).ownBlock ∧ some k_ ≠ (.slice Ao21 t418.length co21 : Value).ownBlock ∧ some k_ ≠ (.slice Ao40 t426.length co40 : Value).ownBlock ∧ some k_ ≠ (.slice Ao42 t430.length co42 : Value).ownBlock) (Kd.R_keptB (HO_11.out) hkp (fun k_ hk_ hs_ => (hk_.1.1.2.1) hs_)) (fun k_ hk_ => ⟨hk_.1.1.1.1, hk_.1.1.1.2.1, hk_.1.1.1.2.2, hk_.1.1.2, hk_.1.2⟩)); have n4_ := Aside0.mk (Kd.R_mono (ok' := fun k_ => some k_ ≠ (v413 : Value).ownBlock ∧ some k_ ≠ (.slice Ao20 t415.length co20 : Value).ownBlock ∧ some k_ ≠ (.slice Ao21 t418.length co21 : Value).ownBlock ∧ some k_ ≠ (v423 : Value).ownBlock ∧ some k_ ≠ (.slice Ao42 t430.length co42 : Value).ownBlock) (Kd.R_keptB (HO428.out) hkp (fun k_ hk_ hs_ => (hk_.1.1.1.2) hs_)) (fun k_ hk_ => ⟨hk_.1.1.1.1.1.2, hk_.1.1.1.1.2, hk_.1.1.1.2, hk_.1.1.2, hk_.1.2⟩)); have n5_ := Aside0.mk (Kd.R_mono (ok' := fun k_ => some k_ ≠ (v413 : Value).ownBlock ∧ some k_ ≠ (.slice Ao20 t415.length co20 : Value).ownBlock ∧ some k_ ≠ (.slice Ao21 t418.length co21 : Value).ownBlock ∧ some k_ ≠ (v423 : Value).ownBlock ∧ some k_ ≠ (.slice Ao40 t426.length co40 : Value).ownBlock) (Kd.R_keptB (HO432.out) hkp (fun k_ hk_ hs_ => (hk_.1.1.1.2) hs_)) (fun k_ hk_ => ⟨hk_.1.1.1.1.1.2, hk_.1.1.1.1.2, hk_.1.1.1.2, hk_.1.1.2, hk_.1.2⟩)); have n6_ := Aside0.mk (hb); clear HO_7; clear HO_9; clear HO_10; clear HO_11; clear HO428; clear HO432; clear HB; have HO_7 := n0_; have HO_9 := n1_; have HO_10 := n2_; have HO_11 := n3_; have HO428 := n4_; have HO432 := n5_; have HB := n6_; clear n0_ n1_ n2_ n3_ n4_ n5_ n6_; (try clear hb); (try clear hkp); (try clear hy0)) | ((with_reducible refine gate_callee (f := 25) rfl ?_); refine goesL_ (some 68) rfl rfl Try.func25 (by kernel_rfl) rfl #[.slice Ao21 t418.length co21, .int .i64 t434] rfl qG ?_; (with_reducible refine (laws_markIntS.calls kj11 (fun k_ => some k_ = (.slice Ao21 t418.length co21 : Value).ownBlock) (.slice Ao21 t418.length co21) t418 t434 t436 t437 w _ ?side1 ?side2 A37.out).mono ?_); (case side1 => repeat (first | (with_reducible first | exact HB.out | apply below_alloc | apply pw_below_drewN | apply below_drew1) | exact HB.out)); (case side2 => exact Kd.R_tight rfl HO_10.out); rintro e w44 ⟨rfl, hy0, hb, hkp⟩; refine ⟨_, rfl, ?_⟩; have n0_ := Aside0.mk (Kd.R_mono (ok' := fun k_ => some k_ ≠ (.slice Ao20 t415.length co20 : Value).ownBlock ∧ some k_ ≠ (.slice Ao21 t418.length co21 : Value).ownBlock ∧ some k_ ≠ (v423 : Value).ownBlock ∧ some k_ ≠ (.slice Ao40 t426.length co40 : Value).ownBlock ∧ some k_ ≠ (.slice Ao42 t430.length co42 : Value).ownBlock) (Kd.R_keptB (HO_7.out) hkp (fun k_ hk_ hs_ => (hk_.2.1) hs_)) (fun k_ hk_ => ⟨hk_.1.1, hk_.1.2.1, hk_.1.2.2.1, hk_.1.2.2.2.1, hk_.1.2.2.2.2⟩)); have n1_ := Aside0.mk (Kd.R_mono (ok' := fun k_ => some k_ ≠ (v413 : Value).ownBlock ∧ some k_ ≠ (.slice Ao21 t418.length co21 : Value).ownBlock ∧ some k_ ≠ (v423 : Value).ownBlock ∧ some k_ ≠ (.slice Ao40 t426.length co40 : Value).ownBlock ∧ some k_ ≠ (.slice Ao42 t430.length co42 : Value).ownBlock) (Kd.R_keptB (HO_9.out) hkp (fun k_ hk_ hs_ => (hk_.1.1.2.1) hs_)) (fun k_ hk_ => ⟨hk_.1.1.1.1, hk_.1.1.1.2.1, hk_.1.1.1.2.2, hk_.1.1.2, hk_.1.2⟩)); have n2_ := Aside0.mk (Kd.R_reok rfl hy0 (fun k_ e_ => HO_10.out.1 k_ e_)); have n3_ := Aside0.mk (Kd.R_mono (ok' := fun k_ => some k_ ≠ (v413 : Value).ownBlock ∧ some k_ ≠ (.slice Ao20 t415.length co20 : Value).ownBlock ∧ some k_ ≠ (.slice Ao21 t418.length co21 : Value).ownBlock ∧ some k_ ≠ (.slice Ao40 t426.length co40 : Value).ownBlock ∧ some k_ ≠ (.slice Ao42 t430.length co42 : Value).ownBlock) (Kd.R_keptB (HO_11.out) hkp (fun k_ hk_ hs_ => (hk_.2.2.1) hs_)) (fun k_ hk_ => ⟨hk_.1.1, hk_.1.2.1, hk_.1.2.2.1, hk_.1.2.2.2.1, hk_.1.2.2.2.2⟩)); have n4_ := Aside0.mk (Kd.R_mono (ok' := fun k_ => some k_ ≠ (v413 : Value).ownBlock ∧ some k_ ≠ (.slice Ao20 t415.length co20 : Value).ownBlock ∧ some k_ ≠ (.slice Ao21 t418.length co21 : Value).ownBlock ∧ some k_ ≠ (v423 : Value).ownBlock ∧ some k_ ≠ (.slice Ao42 t430.length co42 : Value).ownBlock) (Kd.R_keptB (HO428.out) hkp (fun k_ hk_ hs_ => (hk_.2.2.1) hs_)) (fun k_ hk_ => ⟨hk_.1.1, hk_.1.2.1, hk_.1.2.2.1, hk_.1.2.2.2.1, hk_.1.2.2.2.2⟩)); have n5_ := Aside0.mk (Kd.R_mono (ok' := fun k_ => some k_ ≠ (v413 : Value).ownBlock ∧ some k_ ≠ (.slice Ao20 t415.length co20 : Value).ownBlock ∧ some k_ ≠ (.slice Ao21 t418.length co21 : Value).ownBlock ∧ some k_ ≠ (v423 : Value).ownBlock ∧ some k_ ≠ (.slice Ao40 t426.length co40 : Value).ownBlock) (Kd.R_keptB (HO432.out) hkp (fun k_ hk_ hs_ => (hk_.2.2.1) hs_)) (fun k_ hk_ => ⟨hk_.1.1, hk_.1.2.1, hk_.1.2.2.1, hk_.1.2.2.2.1, hk_.1.2.2.2.2⟩)); have n6_ := Aside0.mk (hb); clear HO_7; clear HO_9; clear HO_10; clear HO_11; clear HO428; clear HO432; clear HB; have HO_7 := n0_; have HO_9 := n1_; have HO_10 := n2_; have HO_11 := n3_; have HO428 := n4_; have HO432 := n5_; have HB := n6_; clear n0_ n1_ n2_ n3_ n4_ n5_ n6_; (try clear hb); (try clear hkp); (try clear hy0)))
        (try simp only [Act.put, List.setIfInBounds_toArray, List.set_cons_zero, List.set_cons_succ])
        go_cut [81] (fun v81 wc => ∃ (kq : Nat) (x81_37 : Bool), v81 = .bool x81_37 ∧ Aside0 (laws_FnExactResolveOn.j1 kq l0 l1 a2 t411 t412 t421 x81_37 = some true) ∧ Aside0 (kq ≤ kj11) ∧ Aside0 (Kd.R (Kd.int .i64) 3 wc w.heap.size (fun k_ => some k_ ≠ (v423 : Value).ownBlock) v413 t411) ∧ Aside0 (Kd.R (Kd.int .i64) 3 wc w.heap.size (fun k_ => some k_ ≠ (v413 : Value).ownBlock) v423 t421) ∧ Aside0 (Below w.heap.size w wc))
        case first =>
         have H := HC38.out
         clear HC38
         by_cases c45 : t436 < 0
         ·rw [if_pos c45] at H
          exact absurd H (by cases kj11 <;> simp [laws_FnExactResolveOn.j1])
         ·rw [if_neg c45] at H
          have c45b0 : decide (t436 < 0) = false := decide_eq_false c45
          clear c45
          (first | rw [c45b0] | (simp only [i64_w, i32_w]; rw [c45b0]) | skip)
          replace H := Option.bind_eq_some_iff.mp H
          obtain ⟨t438, A460, H⟩ := H
          replace H : (if t438 = true then (laws_FnExactResolveOn.j1 kj11 l0 l1 a2 t411 t412 t421 (t422 != t412)) else (laws_FnExactResolveOn.j1 kj11 l0 l1 a2 t411 t412 t421 true)) = some true := H
          have A46 := Aside0.mk A460
          clear A460
          by_cases c47 : t438 = true
          ·subst c47
           have H1 : (laws_FnExactResolveOn.j1 kj11 l0 l1 a2 t411 t412 t421 (t422 != t412)) = some true := by rw [if_pos rfl] at H; exact H
           clear H
           have H := H1
           clear H1
           have H' := Aside0.mk H
           clear H
           obtain ⟨Ao48, co48, eo48⟩ := Kd.R_slice HO_11.out
           subst eo48
           obtain ⟨Ao49, co49, eo49⟩ := Kd.R_slice HO_7.out
           subst eo49
           go_wp2_with (first | (go_at_call 23; (with_reducible refine (laws_eqIntS.calls kj11 _ _ t421 _ _ t411 true _ ?side1 ?side2 ?side3 ?side4 A46.out).mono ?_); (case side1 => repeat (first | exact (Kd.R_reads' HO_11.out).2.2 | (with_reducible refine Kd.C_alloc ?_ _) | (with_reducible refine Kd.C_drewN ?_ _) | (with_reducible refine Kd.C_drew ?_))); (case side2 => exact (Kd.R_reads' HO_11.out).2.1); (case side3 => repeat (first | exact (Kd.R_reads' HO_7.out).2.2 | (with_reducible refine Kd.C_alloc ?_ _) | (with_reducible refine Kd.C_drewN ?_ _) | (with_reducible refine Kd.C_drew ?_))); (case side4 => exact (Kd.R_reads' HO_7.out).2.1); rintro e w' ⟨rfl, ⟨nd, rfl⟩⟩))
           go_meet
           case rel => exact ⟨_, ((t422 != t412)), qS, H', ⟨by have := HJ11.out; first | omega | exact Nat.le_refl _⟩, ⟨by (with_reducible repeat (first | apply Kd.R_alloc | apply Kd.R_drewN | apply Kd.R_drew)); exact Kd.R_mono HO_7.out (fun _ hk => hk.2.2.1)⟩, ⟨by (with_reducible repeat (first | apply Kd.R_alloc | apply Kd.R_drewN | apply Kd.R_drew)); exact Kd.R_mono HO_11.out (fun _ hk => hk.1)⟩, ⟨qB⟩⟩
          ·replace c47 := Bool.eq_false_iff.mpr c47
           subst c47
           have H1 : (laws_FnExactResolveOn.j1 kj11 l0 l1 a2 t411 t412 t421 true) = some true := by rw [if_neg (show ¬ (false = true) by decide)] at H; exact H
           exact absurd H1 (by cases kj11 <;> simp [laws_FnExactResolveOn.j1])
        case rest =>
         clear HC38
         try clear c1
         try clear c2
         try clear p2
         try clear c3
         try clear c4
         try clear c4b0
         try clear c4b1
         try clear c5
         try clear c5b0
         try clear c5b1
         try clear c8
         try clear c21
         try clear c23
         try clear c24
         try clear c25
         try clear c29
         try clear c31
         try clear c32
         try clear c35
         try clear c45
         try clear c45b0
         try clear c47
         try clear p2
         obtain ⟨kq, x81_37, rfl, HA, HJ37, HO_7, HO_11, HB⟩ := hcut
         cases kq with
         | zero => exact absurd HA.out (by simp [laws_FnExactResolveOn.j1])
         | succ kj37 =>
          have H := HA.out
          clear HA
          simp only [laws_FnExactResolveOn.j1] at H
          by_cases c52 : x81_37 = true
          ·subst c52
           have H1 : (some false) = some true := by rw [if_pos rfl] at H; exact H
           exact absurd H1 (by simp)
          ·replace c52 := Bool.eq_false_iff.mpr c52
           subst c52
           have H1 : ((laws_markIntS.f kj37 t421 1).bind fun bt439 => ((laws_heldIntS.f kj37 bt439.2 1).bind fun t441 => (if t441 < 0 then (some false) else (if t441 = bt439.1 then ((laws_toIntS.f kj37 l0).bind fun t442 => ((laws_toIntS.f kj37 l1).bind fun t445 => ((impl_ResolveOn.f t442 t445 a2).bind fun bt448 => ((laws_eqIntS.f kj37 bt448.1 t411).bind fun t452 => (if t452 = true then (laws_FnExactResolveOn.j2 kj37 bt439.2 bt439.1 (bt448.2 != t412)) else (laws_FnExactResolveOn.j2 kj37 bt439.2 bt439.1 true)))))) else (some false))))) = some true := by rw [if_neg (show ¬ (false = true) by decide)] at H; exact H
           clear H
           have H := H1
           clear H1
           replace H := Option.bind_eq_some_iff.mp H
           obtain ⟨⟨t439, t440⟩, A530, H⟩ := H
           replace H : ((laws_heldIntS.f kj37 t440 1).bind fun t441 => (if t441 < 0 then (some false) else (if t441 = t439 then ((laws_toIntS.f kj37 l0).bind fun t442 => ((laws_toIntS.f kj37 l1).bind fun t445 => ((impl_ResolveOn.f t442 t445 a2).bind fun bt448 => ((laws_eqIntS.f kj37 bt448.1 t411).bind fun t452 => (if t452 = true then (laws_FnExactResolveOn.j2 kj37 t440 t439 (bt448.2 != t412)) else (laws_FnExactResolveOn.j2 kj37 t440 t439 true)))))) else (some false)))) = some true := H
           have A53 := Aside0.mk A530
           clear A530
           replace H := Option.bind_eq_some_iff.mp H
           obtain ⟨t441, A540, H⟩ := H
           replace H : (if t441 < 0 then (some false) else (if t441 = t439 then ((laws_toIntS.f kj37 l0).bind fun t442 => ((laws_toIntS.f kj37 l1).bind fun t445 => ((impl_ResolveOn.f t442 t445 a2).bind fun bt448 => ((laws_eqIntS.f kj37 bt448.1 t411).bind fun t452 => (if t452 = true then (laws_FnExactResolveOn.j2 kj37 t440 t439 (bt448.2 != t412)) else (laws_FnExactResolveOn.j2 kj37 t440 t439 true)))))) else (some false))) = some true := H
           have A54 := Aside0.mk A540
           clear A540
           by_cases c55 : t441 < 0
           ·rw [if_pos c55] at H
            exact absurd H (by simp)
           ·rw [if_neg c55] at H
            have c55b0 : decide (t441 < 0) = false := decide_eq_false c55
            clear c55
            by_cases c58 : t441 = t439
            ·rw [if_pos c58] at H
             have c58b0 : (t441 == t439) = true := beq_iff_eq.mpr c58
             have c58b1 : (t441 != t439) = false := bne_eq_false_iff_eq.mpr c58
             clear c58
             replace H := Option.bind_eq_some_iff.mp H
             obtain ⟨t442, A590, H⟩ := H
             replace H : ((laws_toIntS.f kj37 l1).bind fun t445 => ((impl_ResolveOn.f t442 t445 a2).bind fun bt448 => ((laws_eqIntS.f kj37 bt448.1 t411).bind fun t452 => (if t452 = true then (laws_FnExactResolveOn.j2 kj37 t440 t439 (bt448.2 != t412)) else (laws_FnExactResolveOn.j2 kj37 t440 t439 true))))) = some true := H
             have A59 := Aside0.mk A590
             clear A590
             replace H := Option.bind_eq_some_iff.mp H
             obtain ⟨t445, A600, H⟩ := H
             replace H : ((impl_ResolveOn.f t442 t445 a2).bind fun bt448 => ((laws_eqIntS.f kj37 bt448.1 t411).bind fun t452 => (if t452 = true then (laws_FnExactResolveOn.j2 kj37 t440 t439 (bt448.2 != t412)) else (laws_FnExactResolveOn.j2 kj37 t440 t439 true)))) = some true := H
             have A60 := Aside0.mk A600
             clear A600
             replace H := Option.bind_eq_some_iff.mp H
             obtain ⟨⟨t448, t449⟩, A610, H⟩ := H
             replace H : ((laws_eqIntS.f kj37 t448 t411).bind fun t452 => (if t452 = true then (laws_FnExactResolveOn.j2 kj37 t440 t439 (t449 != t412)) else (laws_FnExactResolveOn.j2 kj37 t440 t439 true))) = some true := H
             have A61 := Aside0.mk A610
             clear A610
             have HC62 := Aside0.mk H
             clear H
             obtain ⟨Ao63, co63, eo63⟩ := Kd.R_slice HO_11.out
             subst eo63
             go_upto_region 29 with (first | ((with_reducible refine gate_callee (f := 25) rfl ?_); refine goesL_ (some 84) rfl rfl Try.func25 (by kernel_rfl) rfl #[.slice Ao63 t421.length co63, .int .i64 1] rfl qG ?_; (with_reducible refine (laws_markIntS.calls kj37 (fun k_ => some k_ = (.slice Ao63 t421.length co63 : Value).ownBlock) (.slice Ao63 t421.length co63) t421 1 t439 t440 w _ ?side1 ?side2 A53.out).mono ?_); (case side1 => repeat (first | (with_reducible first | exact HB.out | apply below_alloc | apply pw_below_drewN | apply below_drew1) | exact HB.out)); (case side2 => exact Kd.R_tight rfl HO_11.out); rintro e w64 ⟨rfl, hy0, hb, hkp⟩; refine ⟨_, rfl, ?_⟩; have n0_ := Aside0.mk (Kd.R_mono (ok' := fun k_ => some k_ ≠ (.slice Ao63 t421.length co63 : Value).ownBlock) (Kd.R_keptB (HO_7.out) hkp (fun k_ hk_ hs_ => (hk_) hs_)) (fun k_ hk_ => hk_.1)); have n1_ := Aside0.mk (Kd.R_reok rfl hy0 (fun k_ e_ => HO_11.out.1 k_ e_)); have n2_ := Aside0.mk (hb); clear HO_7; clear HO_11; clear HB; have HO_7 := n0_; have HO_11 := n1_; have HB := n2_; clear n0_ n1_ n2_; (try clear hb); (try clear hkp); (try clear hy0)) | ((with_reducible refine gate_callee (f := 26) rfl ?_); refine goesL_ (some 87) rfl rfl Try.func26 (by kernel_rfl) rfl #[.slice Ao63 t440.length co63, .int .i64 1] rfl (by (try simp only [List.map_toArray, List.map_cons, List.map_nil]); first | done | (rw [show t440.length = t421.length from (Kd.R_reads' HO_11.out).1.symm] <;> rfl) | rfl | (simp only [List.length_drop, List.length_take]; rfl)) ?_; (with_reducible refine (laws_heldIntS.calls kj37 _ _ t440 1 t441 _ ?side1 ?side2 A54.out).mono ?_); (case side1 => repeat (first | exact (Kd.R_reads' HO_11.out).2.2 | (with_reducible refine Kd.C_alloc ?_ _) | (with_reducible refine Kd.C_drewN ?_ _) | (with_reducible refine Kd.C_drew ?_))); (case side2 => rw [show t440.length = t421.length from (Kd.R_reads' HO_11.out).1.symm]; exact (Kd.R_reads' HO_11.out).2.1); rintro e w' ⟨rfl, ⟨nd, rfl⟩⟩; refine ⟨_, rfl, ?_⟩) | ((with_reducible refine gate_callee (f := 21) rfl ?_); refine goesL_ (some 95) rfl rfl Try.func21 (by kernel_rfl) rfl #[.slice A0 l0.length c0] rfl qG ?_; (with_reducible refine (laws_toIntS.calls kj37 _ _ l0 t442 _ ?side1 ?side2 A59.out).mono ?_); (case side1 => repeat (first | exact (Kd.C_below HR0.out (qB)) | (with_reducible refine Kd.C_alloc ?_ _) | (with_reducible refine Kd.C_drewN ?_ _) | (with_reducible refine Kd.C_drew ?_))); (case side2 => exact HC0.out); rintro e w65 ⟨v443, rfl, ho0, hb⟩; refine ⟨_, rfl, ?_⟩; have n0_ := Aside0.mk (Kd.R_elder' (qR HO_7.out) (Kd.R_base ho0) hb); have n1_ := Aside0.mk (Kd.R_elder' (qR HO_11.out) (Kd.R_base ho0) hb); have n2_ := Aside0.mk (Kd.R_lower (Kd.R_new' (Kd.R_new' ho0 (Kd.R_lt (qR HO_7.out))) (Kd.R_lt (qR HO_11.out))) (below_size (qB))); have n3_ := Aside0.mk (below_step (qB) hb); clear HO_7; clear HO_11; clear HB; have HO_7 := n0_; have HO_11 := n1_; have HO444 := n2_; have HB := n3_; clear n0_ n1_ n2_ n3_; (try clear hb); (try clear hb2); (try clear hk); (try clear hi); (try clear ho0)) | ((with_reducible refine gate_callee (f := 21) rfl ?_); refine goesL_ (some 97) rfl rfl Try.func21 (by kernel_rfl) rfl #[.slice A1 l1.length c1] rfl qG ?_; (with_reducible refine (laws_toIntS.calls kj37 _ _ l1 t445 _ ?side1 ?side2 A60.out).mono ?_); (case side1 => exact qC (Kd.C_below HR1.out HB.out)); (case side2 => exact HC1.out); rintro e w66 ⟨v446, rfl, ho0, hb⟩; refine ⟨_, rfl, ?_⟩; have n0_ := Aside0.mk (Kd.R_elder' (qR HO_7.out) (Kd.R_base ho0) hb); have n1_ := Aside0.mk (Kd.R_elder' (qR HO_11.out) (Kd.R_base ho0) hb); have n2_ := Aside0.mk (Kd.R_elder' (qR HO444.out) (Kd.R_base ho0) hb); have n3_ := Aside0.mk (Kd.R_lower (Kd.R_new' (Kd.R_new' (Kd.R_new' ho0 (Kd.R_lt (qR HO_7.out))) (Kd.R_lt (qR HO_11.out))) (Kd.R_lt (qR HO444.out))) (below_size (qB))); have n4_ := Aside0.mk (below_step (qB) hb); clear HO_7; clear HO_11; clear HO444; clear HB; have HO_7 := n0_; have HO_11 := n1_; have HO444 := n2_; have HO447 := n3_; have HB := n4_; clear n0_ n1_ n2_ n3_ n4_; (try clear hb); (try clear hb2); (try clear hk); (try clear hi); (try clear ho0); obtain ⟨Ao67, co67, eo67⟩ := Kd.R_slice HO444.out; subst eo67; obtain ⟨Ao68, co68, eo68⟩ := Kd.R_slice HO447.out; subst eo68) | ((with_reducible refine gate_callee (f := 32) rfl ?_); refine goesL_ (some 99) rfl rfl Try.func32 (by kernel_rfl) rfl #[.slice Ao67 t442.length co67, .slice Ao68 t445.length co68, .int .i64 a2] rfl qG ?_; (with_reducible refine (impl_ResolveOn.calls _ _ t442 _ _ t445 a2 t448 t449 _ ?side1 ?side2 ?side3 ?side4 A61.out).mono ?_); (case side1 => repeat (first | exact (Kd.R_reads' HO444.out).2.2 | (with_reducible refine Kd.C_alloc ?_ _) | (with_reducible refine Kd.C_drewN ?_ _) | (with_reducible refine Kd.C_drew ?_))); (case side2 => exact (Kd.R_reads' HO444.out).2.1); (case side3 => repeat (first | exact (Kd.R_reads' HO447.out).2.2 | (with_reducible refine Kd.C_alloc ?_ _) | (with_reducible refine Kd.C_drewN ?_ _) | (with_reducible refine Kd.C_drew ?_))); (case side4 => exact (Kd.R_reads' HO447.out).2.1); rintro e w69 ⟨v450, rfl, ho0, hb⟩; refine ⟨_, rfl, ?_⟩; have n0_ := Aside0.mk (Kd.R_elder' (qR HO_7.out) (Kd.R_base ho0) hb); have n1_ := Aside0.mk (Kd.R_elder' (qR HO_11.out) (Kd.R_base ho0) hb); have n2_ := Aside0.mk (Kd.R_elder' (qR HO444.out) (Kd.R_base ho0) hb); have n3_ := Aside0.mk (Kd.R_elder' (qR HO447.out) (Kd.R_base ho0) hb); have n4_ := Aside0.mk (Kd.R_lower (Kd.R_new' (Kd.R_new' (Kd.R_new' (Kd.R_new' ho0 (Kd.R_lt (qR HO_7.out))) (Kd.R_lt (qR HO_11.out))) (Kd.R_lt (qR HO444.out))) (Kd.R_lt (qR HO447.out))) (below_size (qB))); have n5_ := Aside0.mk (below_step (qB) hb); clear HO_7; clear HO_11; clear HO444; clear HO447; clear HB; have HO_7 := n0_; have HO_11 := n1_; have HO444 := n2_; have HO447 := n3_; have HO451 := n4_; have HB := n5_; clear n0_ n1_ n2_ n3_ n4_ n5_; (try clear hb); (try clear hb2); (try clear hk); (try clear hi); (try clear ho0)))
             (try simp only [Act.put, List.setIfInBounds_toArray, List.set_cons_zero, List.set_cons_succ])
             go_cut [110] (fun v110 wc => ∃ (kq : Nat) (x110_61 : Bool), v110 = .bool x110_61 ∧ Aside0 (laws_FnExactResolveOn.j2 kq t440 t439 x110_61 = some true) ∧ Aside0 (kq ≤ kj37) ∧ Aside0 (Kd.R (Kd.int .i64) 3 wc w.heap.size (fun _ => True) (.slice Ao63 t421.length co63) t440) ∧ Aside0 (Below w.heap.size w wc))
             case first =>
              have H := HC62.out
              clear HC62
              replace H := Option.bind_eq_some_iff.mp H
              obtain ⟨t452, A700, H⟩ := H
              replace H : (if t452 = true then (laws_FnExactResolveOn.j2 kj37 t440 t439 (t449 != t412)) else (laws_FnExactResolveOn.j2 kj37 t440 t439 true)) = some true := H
              have A70 := Aside0.mk A700
              clear A700
              by_cases c71 : t452 = true
              ·subst c71
               have H1 : (laws_FnExactResolveOn.j2 kj37 t440 t439 (t449 != t412)) = some true := by rw [if_pos rfl] at H; exact H
               clear H
               have H := H1
               clear H1
               have H' := Aside0.mk H
               clear H
               obtain ⟨Ao72, co72, eo72⟩ := Kd.R_slice HO451.out
               subst eo72
               obtain ⟨Ao73, co73, eo73⟩ := Kd.R_slice HO_7.out
               subst eo73
               go_wp2_with (first | ((with_reducible refine gate_callee (f := 23) rfl ?_); refine goesL_ (some 104) rfl rfl Try.func23 (by kernel_rfl) rfl #[.slice Ao72 t448.length co72, .slice Ao73 t411.length co73] rfl qG ?_; (with_reducible refine (laws_eqIntS.calls kj37 _ _ t448 _ _ t411 true _ ?side1 ?side2 ?side3 ?side4 A70.out).mono ?_); (case side1 => repeat (first | exact (Kd.R_reads' HO451.out).2.2 | (with_reducible refine Kd.C_alloc ?_ _) | (with_reducible refine Kd.C_drewN ?_ _) | (with_reducible refine Kd.C_drew ?_))); (case side2 => exact (Kd.R_reads' HO451.out).2.1); (case side3 => repeat (first | exact (Kd.R_reads' HO_7.out).2.2 | (with_reducible refine Kd.C_alloc ?_ _) | (with_reducible refine Kd.C_drewN ?_ _) | (with_reducible refine Kd.C_drew ?_))); (case side4 => exact (Kd.R_reads' HO_7.out).2.1); rintro e w' ⟨rfl, ⟨nd, rfl⟩⟩; refine ⟨_, rfl, ?_⟩))
               go_meet
               case rel => exact ⟨_, ((t449 != t412)), qS, H', ⟨by have := HJ11.out; have := HJ37.out; first | omega | exact Nat.le_refl _⟩, ⟨by (with_reducible repeat (first | apply Kd.R_alloc | apply Kd.R_drewN | apply Kd.R_drew)); exact Kd.R_mono HO_11.out (fun _ hk => trivial)⟩, ⟨qB⟩⟩
              ·replace c71 := Bool.eq_false_iff.mpr c71
               subst c71
               have H1 : (laws_FnExactResolveOn.j2 kj37 t440 t439 true) = some true := by rw [if_neg (show ¬ (false = true) by decide)] at H; exact H
               exact absurd H1 (by cases kj37 <;> simp [laws_FnExactResolveOn.j2])
             case rest =>
              clear HC62
              try clear c1
              try clear c2
              try clear p2
              try clear c3
              try clear c4
              try clear c4b0
              try clear c4b1
              try clear c5
              try clear c5b0
              try clear c5b1
              try clear c7
              try clear c8
              try clear c21
              try clear c23
              try clear c24
              try clear c25
              try clear c26
              try clear c29
              try clear c31
              try clear c32
              try clear c35
              try clear c45
              try clear c45b0
              try clear c47
              try clear c52
              try clear c55
              try clear c55b0
              try clear c58
              try clear c58b0
              try clear c58b1
              try clear c71
              try clear p2
              obtain ⟨kq, x110_61, rfl, HA, HJ61, HO_11, HB⟩ := hcut
              have hl11_61 := (Kd.R_reads' HO_11.out).1
              rw [hl11_61] at HO_11
              (try simp only [hl11_61])
              cases kq with
              | zero => exact absurd HA.out (by simp [laws_FnExactResolveOn.j2])
              | succ kj61 =>
               have H := HA.out
               clear HA
               simp only [laws_FnExactResolveOn.j2] at H
               by_cases c76 : x110_61 = true
               ·subst c76
                have H1 : (some false) = some true := by rw [if_pos rfl] at H; exact H
                exact absurd H1 (by simp)
               ·replace c76 := Bool.eq_false_iff.mpr c76
                subst c76
                have H1 : ((laws_heldIntS.f kj61 t440 1).bind fun t453 => (if t453 < 0 then (some false) else (if t453 = t439 then (some true) else (some false)))) = some true := by rw [if_neg (show ¬ (false = true) by decide)] at H; exact H
                clear H
                have H := H1
                clear H1
                replace H := Option.bind_eq_some_iff.mp H
                obtain ⟨t453, A770, H⟩ := H
                replace H : (if t453 < 0 then (some false) else (if t453 = t439 then (some true) else (some false))) = some true := H
                have A77 := Aside0.mk A770
                clear A770
                by_cases c78 : t453 < 0
                ·rw [if_pos c78] at H
                 exact absurd H (by simp)
                ·rw [if_neg c78] at H
                 have c78b0 : decide (t453 < 0) = false := decide_eq_false c78
                 clear c78
                 by_cases c79 : t453 = t439
                 ·rw [if_pos c79] at H
                  have c79b0 : (t453 == t439) = true := beq_iff_eq.mpr c79
                  have c79b1 : (t453 != t439) = false := bne_eq_false_iff_eq.mpr c79
                  clear c79
                  go_wp2_with (first | ((with_reducible refine gate_callee (f := 26) rfl ?_); refine goesL_ (some 113) rfl rfl Try.func26 (by kernel_rfl) rfl #[.slice Ao63 t440.length co63, .int .i64 1] rfl qG ?_; (with_reducible refine (laws_heldIntS.calls kj61 _ _ t440 1 t453 _ ?side1 ?side2 A77.out).mono ?_); (case side1 => repeat (first | exact (Kd.R_reads' HO_11.out).2.2 | (with_reducible refine Kd.C_alloc ?_ _) | (with_reducible refine Kd.C_drewN ?_ _) | (with_reducible refine Kd.C_drew ?_))); (case side2 => exact (Kd.R_reads' HO_11.out).2.1); rintro e w' ⟨rfl, ⟨nd, rfl⟩⟩; refine ⟨_, rfl, ?_⟩))
                  go_ret
                  exact ⟨qE, qB⟩
                 ·rw [if_neg c79] at H
                  exact absurd H (by simp)
            ·rw [if_neg c58] at H
             exact absurd H (by simp)
       ·replace c35 := Bool.eq_false_iff.mpr c35
        subst c35
        have H1 : (some false) = some true := by rw [if_neg (show ¬ (false = true) by decide)] at H; exact H
        exact absurd H1 (by simp)
      ·replace c32 := Bool.eq_false_iff.mpr c32
       subst c32
       have H1 : (some false) = some true := by rw [if_neg (show ¬ (false = true) by decide)] at H; exact H
       exact absurd H1 (by simp)
/-- THE PURE STATEMENT of laws_FnExactResolveOn. -/
def laws_FnExactResolveOn.Pure : Prop := ∀ (l0 : List Int) (l1 : List Int) (a2 : Int), ((l0).length ≤ maxLen ∧ ∀ y ∈ l0, (Lit.int .i64 y).wf = true) → ((l1).length ≤ maxLen ∧ ∀ y ∈ l1, (Lit.int .i64 y).wf = true) → (Lit.int .i64 a2).wf = true → ∃ k, laws_FnExactResolveOn.f k l0 l1 a2 = some true
theorem laws_FnExactResolveOn.walk (P : laws_FnExactResolveOn.Pure) (A0 : Option Addr) (c0 : Nat) (l0 : List Int) (A1 : Option Addr) (c1 : Nat) (l1 : List Int) (a2 : Int) (w : World) (hr0 : Kd.C (Kd.int .i64) w A0 l0.length l0) (hc0 : l0.length ≤ c0) (hr1 : Kd.C (Kd.int .i64) w A1 l1.length l1) (hc1 : l1.length ≤ c1) (w0 : ((l0).length ≤ maxLen ∧ ∀ y ∈ l0, (Lit.int .i64 y).wf = true)) (w1 : ((l1).length ≤ maxLen ∧ ∀ y ∈ l1, (Lit.int .i64 y).wf = true)) (w2 : (Lit.int .i64 a2).wf = true) :
  Calls Try.prog 8 #[.slice A0 l0.length c0, .slice A1 l1.length c1, .int .i64 a2] w fun e w' => e = .returned (.bool true) ∧ Below w.heap.size w w' := by
 obtain ⟨k, h⟩ := P l0 l1 a2 w0 w1 w2
 refine (laws_FnExactResolveOn.calls k A0 c0 l0 A1 c1 l1 a2 true w hr0 hc0 hr1 hc1 h).mono ?_
 rintro e w' ⟨rfl, hd⟩
 exact ⟨rfl, hd⟩

end Go.Proofs.Ytdmngodinbelfaa.X
