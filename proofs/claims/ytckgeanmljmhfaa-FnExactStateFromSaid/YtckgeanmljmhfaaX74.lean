/- Go functions as Lean functions, each with the proof that its call comes to just its answer. Conditions: the arguments are of their kinds. -/
import Derived.Test.YtckgeanmljmhfaaX0
import Derived.Test.YtckgeanmljmhfaaX63
import Derived.Test.YtckgeanmljmhfaaX68
import Derived.Test.YtckgeanmljmhfaaX72
namespace Go.Proofs.Ytckgeanmljmhfaa.X
open Go.RowKit Go.Proofs.YtckgeanmljmhfaaW.PrintWords Go.Proofs.YtckgeanmljmhfaaW.PrintLast Go.Proofs.YtckgeanmljmhfaaW.PrintMore
attribute [local go_sem] max2_int min2_int max_two min_two max_three min_three max_four min_four   -- for this text's walks alone
set_option linter.unusedVariables false
set_option linter.unusedSimpArgs false

/-! ### laws_FnExactStateFrom: function 7 -/
mutual
def laws_FnExactStateFrom.j0 : Nat → Int → List Bool → List Int → Bool → List Bool → List Int → Bool → Bool → Option (Bool)
 | 0, _, _, _, _, _, _, _, _ => none
 | k + 1, x0, x1, x5, x6, x7, x8, x9, x41 => if x41 = true then (some false) else ((laws_toBoolS.f k x1).bind fun t639 => ((laws_eqBoolS.f k x7 t639).bind fun t642 => (if t642 = true then ((laws_markBoolS.f k x7 1).bind fun bt643 => (if bt643.1 < 0 then (laws_FnExactStateFrom.j1 k x0 x1 x5 x6 x8 true) else ((laws_eqUint64S.f k x8 x5).bind fun t645 => (if t645 = true then (laws_FnExactStateFrom.j1 k x0 x1 x5 x6 x8 (x9 != x6)) else (laws_FnExactStateFrom.j1 k x0 x1 x5 x6 x8 true))))) else (some false))))
def laws_FnExactStateFrom.j1 : Nat → Int → List Bool → List Int → Bool → List Int → Bool → Option (Bool)
 | 0, _, _, _, _, _, _ => none
 | k + 1, x0, x1, x5, x6, x8, x62 => if x62 = true then (some false) else ((laws_markUint64S.f k x8 1).bind fun bt646 => ((laws_heldUint64S.f k bt646.2 1).bind fun t648 => (if t648 < 0 then (some false) else (if t648 = bt646.1 then ((laws_toBoolS.f k x1).bind fun t649 => ((impl_StateFrom.f x0 t649).bind fun bt652 => ((laws_eqUint64S.f k bt652.1 x5).bind fun t656 => (if t656 = true then (laws_FnExactStateFrom.j2 k bt646.2 bt646.1 (bt652.2 != x6)) else (laws_FnExactStateFrom.j2 k bt646.2 bt646.1 true))))) else (some false)))))
def laws_FnExactStateFrom.j2 : Nat → List Int → Int → Bool → Option (Bool)
 | 0, _, _, _ => none
 | k + 1, x8, x11, x89 => if x89 = true then (some false) else ((laws_heldUint64S.f k x8 1).bind fun t657 => (if t657 < 0 then (some false) else (if t657 = x11 then (some true) else (some false))))
end
def laws_FnExactStateFrom.f (k : Nat) (a0 : Int) (l1 : List Bool) : Option (Bool) := if (l1.length : Int) > 1048576 then (some true) else ((laws_toBoolS.f k l1).bind fun t624 => ((spec_StateFrom.f k a0 t624).bind fun bt627 => ((laws_toBoolS.f k l1).bind fun t631 => ((impl_StateFrom.f a0 t631).bind fun bt634 => ((laws_eqUint64S.f k bt634.1 bt627.1).bind fun t638 => (if t638 = true then (laws_FnExactStateFrom.j0 k a0 l1 bt627.1 bt627.2 t631 bt634.1 bt634.2 (bt634.2 != bt627.2)) else (laws_FnExactStateFrom.j0 k a0 l1 bt627.1 bt627.2 t631 bt634.1 bt634.2 true)))))))
theorem laws_FnExactStateFrom.mono_l : ∀ k, (∀ y0 y1 y2 y3 y4 y5 y6 y7, LeO (laws_FnExactStateFrom.j0 k y0 y1 y2 y3 y4 y5 y6 y7) (laws_FnExactStateFrom.j0 (k + 1) y0 y1 y2 y3 y4 y5 y6 y7)) ∧ (∀ y0 y1 y2 y3 y4 y5, LeO (laws_FnExactStateFrom.j1 k y0 y1 y2 y3 y4 y5) (laws_FnExactStateFrom.j1 (k + 1) y0 y1 y2 y3 y4 y5)) ∧ (∀ y0 y1 y2, LeO (laws_FnExactStateFrom.j2 k y0 y1 y2) (laws_FnExactStateFrom.j2 (k + 1) y0 y1 y2))
 | 0 => ⟨fun _ _ _ _ _ _ _ _ r h => by simp [laws_FnExactStateFrom.j0] at h, fun _ _ _ _ _ _ r h => by simp [laws_FnExactStateFrom.j1] at h, fun _ _ _ r h => by simp [laws_FnExactStateFrom.j2] at h⟩
 | k + 1 => by
  obtain ⟨ih0, ih1, ih2⟩ := laws_FnExactStateFrom.mono_l k
  refine ⟨?_, ?_, ?_⟩
  ·intro y0 y1 y2 y3 y4 y5 y6 y7
   unfold laws_FnExactStateFrom.j0
   repeat' first
   | (with_reducible exact ih0 _ _ _ _ _ _ _ _)
   | (with_reducible exact ih1 _ _ _ _ _ _)
   | (with_reducible exact ih2 _ _ _)
   | (with_reducible exact laws_eqBoolS.mono _ _ _)
   | (with_reducible exact laws_eqUint64S.mono _ _ _)
   | (with_reducible exact laws_heldUint64S.mono _ _ _)
   | (with_reducible exact laws_markBoolS.mono _ _ _)
   | (with_reducible exact laws_markUint64S.mono _ _ _)
   | (with_reducible exact laws_toBoolS.mono _ _)
   | (with_reducible exact spec_StateFrom.mono _ _ _)
   | (with_reducible first | exact LeO.refl _ | exact LeO.none _ | refine LeO.ite ?_ ?_ | refine LeO.bind ?_ (fun _ => ?_))
   | exact ih0 _ _ _ _ _ _ _ _
   | exact ih1 _ _ _ _ _ _
   | exact ih2 _ _ _
   | exact laws_eqBoolS.mono _ _ _
   | exact laws_eqUint64S.mono _ _ _
   | exact laws_heldUint64S.mono _ _ _
   | exact laws_markBoolS.mono _ _ _
   | exact laws_markUint64S.mono _ _ _
   | exact laws_toBoolS.mono _ _
   | exact spec_StateFrom.mono _ _ _
   | exact LeO.none _ | refine LeO.ite ?_ ?_ | refine LeO.bind ?_ (fun _ => ?_)
  ·intro y0 y1 y2 y3 y4 y5
   unfold laws_FnExactStateFrom.j1
   repeat' first
   | (with_reducible exact ih0 _ _ _ _ _ _ _ _)
   | (with_reducible exact ih1 _ _ _ _ _ _)
   | (with_reducible exact ih2 _ _ _)
   | (with_reducible exact laws_eqBoolS.mono _ _ _)
   | (with_reducible exact laws_eqUint64S.mono _ _ _)
   | (with_reducible exact laws_heldUint64S.mono _ _ _)
   | (with_reducible exact laws_markBoolS.mono _ _ _)
   | (with_reducible exact laws_markUint64S.mono _ _ _)
   | (with_reducible exact laws_toBoolS.mono _ _)
   | (with_reducible exact spec_StateFrom.mono _ _ _)
   | (with_reducible first | exact LeO.refl _ | exact LeO.none _ | refine LeO.ite ?_ ?_ | refine LeO.bind ?_ (fun _ => ?_))
   | exact ih0 _ _ _ _ _ _ _ _
   | exact ih1 _ _ _ _ _ _
   | exact ih2 _ _ _
   | exact laws_eqBoolS.mono _ _ _
   | exact laws_eqUint64S.mono _ _ _
   | exact laws_heldUint64S.mono _ _ _
   | exact laws_markBoolS.mono _ _ _
   | exact laws_markUint64S.mono _ _ _
   | exact laws_toBoolS.mono _ _
   | exact spec_StateFrom.mono _ _ _
   | exact LeO.none _ | refine LeO.ite ?_ ?_ | refine LeO.bind ?_ (fun _ => ?_)
  ·intro y0 y1 y2
   unfold laws_FnExactStateFrom.j2
   repeat' first
   | (with_reducible exact ih0 _ _ _ _ _ _ _ _)
   | (with_reducible exact ih1 _ _ _ _ _ _)
   | (with_reducible exact ih2 _ _ _)
   | (with_reducible exact laws_eqBoolS.mono _ _ _)
   | (with_reducible exact laws_eqUint64S.mono _ _ _)
   | (with_reducible exact laws_heldUint64S.mono _ _ _)
   | (with_reducible exact laws_markBoolS.mono _ _ _)
   | (with_reducible exact laws_markUint64S.mono _ _ _)
   | (with_reducible exact laws_toBoolS.mono _ _)
   | (with_reducible exact spec_StateFrom.mono _ _ _)
   | (with_reducible first | exact LeO.refl _ | exact LeO.none _ | refine LeO.ite ?_ ?_ | refine LeO.bind ?_ (fun _ => ?_))
   | exact ih0 _ _ _ _ _ _ _ _
   | exact ih1 _ _ _ _ _ _
   | exact ih2 _ _ _
   | exact laws_eqBoolS.mono _ _ _
   | exact laws_eqUint64S.mono _ _ _
   | exact laws_heldUint64S.mono _ _ _
   | exact laws_markBoolS.mono _ _ _
   | exact laws_markUint64S.mono _ _ _
   | exact laws_toBoolS.mono _ _
   | exact spec_StateFrom.mono _ _ _
   | exact LeO.none _ | refine LeO.ite ?_ ?_ | refine LeO.bind ?_ (fun _ => ?_)
theorem laws_FnExactStateFrom.mono : ∀ a0 a1 k, LeO (laws_FnExactStateFrom.f k a0 a1) (laws_FnExactStateFrom.f (k + 1) a0 a1) := by
 intro a0 a1 k
 obtain ⟨ih0, ih1, ih2⟩ := laws_FnExactStateFrom.mono_l k
 unfold laws_FnExactStateFrom.f
 repeat' first
   | (with_reducible exact ih0 _ _ _ _ _ _ _ _)
   | (with_reducible exact ih1 _ _ _ _ _ _)
   | (with_reducible exact ih2 _ _ _)
   | (with_reducible exact laws_eqBoolS.mono _ _ _)
   | (with_reducible exact laws_eqUint64S.mono _ _ _)
   | (with_reducible exact laws_heldUint64S.mono _ _ _)
   | (with_reducible exact laws_markBoolS.mono _ _ _)
   | (with_reducible exact laws_markUint64S.mono _ _ _)
   | (with_reducible exact laws_toBoolS.mono _ _)
   | (with_reducible exact spec_StateFrom.mono _ _ _)
   | (with_reducible first | exact LeO.refl _ | exact LeO.none _ | refine LeO.ite ?_ ?_ | refine LeO.bind ?_ (fun _ => ?_))
   | exact ih0 _ _ _ _ _ _ _ _
   | exact ih1 _ _ _ _ _ _
   | exact ih2 _ _ _
   | exact laws_eqBoolS.mono _ _ _
   | exact laws_eqUint64S.mono _ _ _
   | exact laws_heldUint64S.mono _ _ _
   | exact laws_markBoolS.mono _ _ _
   | exact laws_markUint64S.mono _ _ _
   | exact laws_toBoolS.mono _ _
   | exact spec_StateFrom.mono _ _ _
   | exact LeO.none _ | refine LeO.ite ?_ ?_ | refine LeO.bind ?_ (fun _ => ?_)
set_option maxHeartbeats 8000000 in
set_option maxRecDepth 100000 in
theorem laws_FnExactStateFrom.calls (k : Nat) (a0 : Int) (A1 : Option Addr) (c1 : Nat) (l1 : List Bool) (r : Bool) (w : World) (hr1 : Kd.C Kd.bool w A1 l1.length l1) (hc1 : l1.length ≤ c1) (h : laws_FnExactStateFrom.f k a0 l1 = some true) :
  Calls Try.prog 7 #[.int .i64 a0, .slice A1 l1.length c1] w fun e w' => e = .returned (.bool true) ∧ Below w.heap.size w w' := by
 have HR1 := Aside0.mk hr1
 have HC1 := Aside0.mk hc1
 clear hr1 hc1
 have HB := Aside0.mk (Below.refl w.heap.size w)
 have H : (if (l1.length : Int) > 1048576 then (some true) else ((laws_toBoolS.f k l1).bind fun t624 => ((spec_StateFrom.f k a0 t624).bind fun bt627 => ((laws_toBoolS.f k l1).bind fun t631 => ((impl_StateFrom.f a0 t631).bind fun bt634 => ((laws_eqUint64S.f k bt634.1 bt627.1).bind fun t638 => (if t638 = true then (laws_FnExactStateFrom.j0 k a0 l1 bt627.1 bt627.2 t631 bt634.1 bt634.2 (bt634.2 != bt627.2)) else (laws_FnExactStateFrom.j0 k a0 l1 bt627.1 bt627.2 t631 bt634.1 bt634.2 true)))))))) = some true := h
 clear h
 by_cases c3 : (l1.length : Int) > 1048576
 ·rw [if_pos c3] at H
  have c3b0 : decide (1048576 < (l1.length : Int)) = true := decide_eq_true c3
  have c3b1 : decide (1048576 < l1.length) = true := decide_eq_true (by omega)
  clear c3
  go_enter Try.func7, Try.ntmps7
  go_wp2
  go_ret
  exact ⟨qE, qB⟩
 ·rw [if_neg c3] at H
  have c3b0 : decide (1048576 < (l1.length : Int)) = false := decide_eq_false c3
  have c3b1 : decide (1048576 < l1.length) = false := decide_eq_false (by omega)
  clear c3
  replace H := Option.bind_eq_some_iff.mp H
  obtain ⟨t624, A40, H⟩ := H
  replace H : ((spec_StateFrom.f k a0 t624).bind fun bt627 => ((laws_toBoolS.f k l1).bind fun t631 => ((impl_StateFrom.f a0 t631).bind fun bt634 => ((laws_eqUint64S.f k bt634.1 bt627.1).bind fun t638 => (if t638 = true then (laws_FnExactStateFrom.j0 k a0 l1 bt627.1 bt627.2 t631 bt634.1 bt634.2 (bt634.2 != bt627.2)) else (laws_FnExactStateFrom.j0 k a0 l1 bt627.1 bt627.2 t631 bt634.1 bt634.2 true)))))) = some true := H
  have A4 := Aside0.mk A40
  clear A40
  replace H := Option.bind_eq_some_iff.mp H
  obtain ⟨⟨t627, t628⟩, A50, H⟩ := H
  replace H : ((laws_toBoolS.f k l1).bind fun t631 => ((impl_StateFrom.f a0 t631).bind fun bt634 => ((laws_eqUint64S.f k bt634.1 t627).bind fun t638 => (if t638 = true then (laws_FnExactStateFrom.j0 k a0 l1 t627 t628 t631 bt634.1 bt634.2 (bt634.2 != t628)) else (laws_FnExactStateFrom.j0 k a0 l1 t627 t628 t631 bt634.1 bt634.2 true))))) = some true := H
  have A5 := Aside0.mk A50
  clear A50
  replace H := Option.bind_eq_some_iff.mp H
  obtain ⟨t631, A60, H⟩ := H
  replace H : ((impl_StateFrom.f a0 t631).bind fun bt634 => ((laws_eqUint64S.f k bt634.1 t627).bind fun t638 => (if t638 = true then (laws_FnExactStateFrom.j0 k a0 l1 t627 t628 t631 bt634.1 bt634.2 (bt634.2 != t628)) else (laws_FnExactStateFrom.j0 k a0 l1 t627 t628 t631 bt634.1 bt634.2 true)))) = some true := H
  have A6 := Aside0.mk A60
  clear A60
  replace H := Option.bind_eq_some_iff.mp H
  obtain ⟨⟨t634, t635⟩, A70, H⟩ := H
  replace H : ((laws_eqUint64S.f k t634 t627).bind fun t638 => (if t638 = true then (laws_FnExactStateFrom.j0 k a0 l1 t627 t628 t631 t634 t635 (t635 != t628)) else (laws_FnExactStateFrom.j0 k a0 l1 t627 t628 t631 t634 t635 true))) = some true := H
  have A7 := Aside0.mk A70
  clear A70
  have HC8 := Aside0.mk H
  clear H
  go_enter Try.func7, Try.ntmps7
  go_upto_region 6 with (first | ((with_reducible refine gate_callee (f := 30) rfl ?_); refine goesL_ (some 21) rfl rfl Try.func30 (by kernel_rfl) rfl #[.slice A1 l1.length c1] rfl qG ?_; (with_reducible refine (laws_toBoolS.calls k _ _ l1 t624 _ ?side1 ?side2 A4.out).mono ?_); (case side1 => exact qC HR1.out); (case side2 => exact HC1.out); rintro e w9 ⟨v625, rfl, ho0, hb⟩; refine ⟨_, rfl, ?_⟩; have n0_ := Aside0.mk (Kd.R_lower ho0 (below_size (qB))); have n1_ := Aside0.mk (below_step (qB) hb); clear HB; have HO626 := n0_; have HB := n1_; clear n0_ n1_; (try clear hb); (try clear hb2); (try clear hk); (try clear hi); (try clear ho0); obtain ⟨Ao10, co10, eo10⟩ := Kd.R_slice HO626.out; subst eo10) | ((with_reducible refine gate_callee (f := 29) rfl ?_); refine goesL_ (some 22) rfl rfl Try.func29 (by kernel_rfl) rfl #[.int .i64 a0, .slice Ao10 t624.length co10] rfl qG ?_; (with_reducible refine (spec_StateFrom.calls k a0 _ _ t624 t627 t628 _ ?side1 ?side2 A5.out).mono ?_); (case side1 => repeat (first | exact (Kd.R_reads' HO626.out).2.2 | (with_reducible refine Kd.C_alloc ?_ _) | (with_reducible refine Kd.C_drewN ?_ _) | (with_reducible refine Kd.C_drew ?_))); (case side2 => exact (Kd.R_reads' HO626.out).2.1); rintro e w11 ⟨v629, rfl, ho0, hb⟩; refine ⟨_, rfl, ?_⟩; have n0_ := Aside0.mk (Kd.R_below (qR HO626.out) hb); have n1_ := Aside0.mk (Kd.R_lower ho0 (below_size (qB))); have n2_ := Aside0.mk (below_step (qB) hb); clear HO626; clear HB; have HO626 := n0_; have HO630 := n1_; have HB := n2_; clear n0_ n1_ n2_; (try clear hb); (try clear hb2); (try clear hk); (try clear hi); (try clear ho0)) | ((with_reducible refine gate_callee (f := 30) rfl ?_); refine goesL_ (some 26) rfl rfl Try.func30 (by kernel_rfl) rfl #[.slice A1 l1.length c1] rfl qG ?_; (with_reducible refine (laws_toBoolS.calls k _ _ l1 t631 _ ?side1 ?side2 A6.out).mono ?_); (case side1 => exact qC (Kd.C_below HR1.out HB.out)); (case side2 => exact HC1.out); rintro e w12 ⟨v632, rfl, ho0, hb⟩; refine ⟨_, rfl, ?_⟩; have n0_ := Aside0.mk (Kd.R_elder' (qR HO626.out) (Kd.R_base ho0) hb); have n1_ := Aside0.mk (Kd.R_below (qR HO630.out) hb); have n2_ := Aside0.mk (Kd.R_lower (Kd.R_new' ho0 (Kd.R_lt (qR HO626.out))) (below_size (qB))); have n3_ := Aside0.mk (below_step (qB) hb); clear HO626; clear HO630; clear HB; have HO626 := n0_; have HO630 := n1_; have HO633 := n2_; have HB := n3_; clear n0_ n1_ n2_ n3_; (try clear hb); (try clear hb2); (try clear hk); (try clear hi); (try clear ho0); obtain ⟨Ao13, co13, eo13⟩ := Kd.R_slice HO633.out; subst eo13) | ((with_reducible refine gate_callee (f := 31) rfl ?_); refine goesL_ (some 30) rfl rfl Try.func31 (by kernel_rfl) rfl #[.int .i64 a0, .slice Ao13 t631.length co13] rfl qG ?_; (with_reducible refine (impl_StateFrom.calls a0 _ _ t631 t634 t635 _ ?side1 ?side2 A7.out).mono ?_); (case side1 => repeat (first | exact (Kd.R_reads' HO633.out).2.2 | (with_reducible refine Kd.C_alloc ?_ _) | (with_reducible refine Kd.C_drewN ?_ _) | (with_reducible refine Kd.C_drew ?_))); (case side2 => exact (Kd.R_reads' HO633.out).2.1); rintro e w14 ⟨v636, rfl, ho0, hb⟩; refine ⟨_, rfl, ?_⟩; have n0_ := Aside0.mk (Kd.R_below (qR HO626.out) hb); have n1_ := Aside0.mk (Kd.R_elder' (qR HO630.out) (Kd.R_base ho0) hb); have n2_ := Aside0.mk (Kd.R_below (qR HO633.out) hb); have n3_ := Aside0.mk (Kd.R_lower (Kd.R_new' ho0 (Kd.R_lt (qR HO630.out))) (below_size (qB))); have n4_ := Aside0.mk (below_step (qB) hb); clear HO626; clear HO630; clear HO633; clear HB; have HO626 := n0_; have HO630 := n1_; have HO633 := n2_; have HO637 := n3_; have HB := n4_; clear n0_ n1_ n2_ n3_ n4_; (try clear hb); (try clear hb2); (try clear hk); (try clear hi); (try clear ho0)))
  (try simp only [Act.put, List.setIfInBounds_toArray, List.set_cons_zero, List.set_cons_succ])
  go_cut [41] (fun v41 wc => ∃ (kq : Nat) (x41_7 : Bool), v41 = .bool x41_7 ∧ Aside0 (laws_FnExactStateFrom.j0 kq a0 l1 t627 t628 t631 t634 t635 x41_7 = some true) ∧ Aside0 (kq ≤ k) ∧ Aside0 (Kd.R (Kd.int .u64) 40 wc w.heap.size (fun k_ => some k_ ≠ (v636 : Value).ownBlock) v629 t627) ∧ Aside0 (Kd.R Kd.bool 4 wc w.heap.size (fun _ => True) (.slice Ao13 t631.length co13) t631) ∧ Aside0 (Kd.R (Kd.int .u64) 40 wc w.heap.size (fun k_ => some k_ ≠ (v629 : Value).ownBlock) v636 t634) ∧ Aside0 (Below w.heap.size w wc))
  case first =>
   have H := HC8.out
   clear HC8
   replace H := Option.bind_eq_some_iff.mp H
   obtain ⟨t638, A150, H⟩ := H
   replace H : (if t638 = true then (laws_FnExactStateFrom.j0 k a0 l1 t627 t628 t631 t634 t635 (t635 != t628)) else (laws_FnExactStateFrom.j0 k a0 l1 t627 t628 t631 t634 t635 true)) = some true := H
   have A15 := Aside0.mk A150
   clear A150
   by_cases c16 : t638 = true
   ·subst c16
    have H1 : (laws_FnExactStateFrom.j0 k a0 l1 t627 t628 t631 t634 t635 (t635 != t628)) = some true := by rw [if_pos rfl] at H; exact H
    clear H
    have H := H1
    clear H1
    have H' := Aside0.mk H
    clear H
    obtain ⟨Ao17, co17, eo17⟩ := Kd.R_slice HO637.out
    subst eo17
    obtain ⟨Ao18, co18, eo18⟩ := Kd.R_slice HO630.out
    subst eo18
    go_wp2_with (first | ((with_reducible refine gate_callee (f := 22) rfl ?_); refine goesL_ (some 35) rfl rfl Try.func22 (by kernel_rfl) rfl #[.slice Ao17 t634.length co17, .slice Ao18 t627.length co18] rfl qG ?_; (with_reducible refine (laws_eqUint64S.calls k _ _ t634 _ _ t627 true _ ?side1 ?side2 ?side3 ?side4 A15.out).mono ?_); (case side1 => repeat (first | exact (Kd.R_reads' HO637.out).2.2 | (with_reducible refine Kd.C_alloc ?_ _) | (with_reducible refine Kd.C_drewN ?_ _) | (with_reducible refine Kd.C_drew ?_))); (case side2 => exact (Kd.R_reads' HO637.out).2.1); (case side3 => repeat (first | exact (Kd.R_reads' HO630.out).2.2 | (with_reducible refine Kd.C_alloc ?_ _) | (with_reducible refine Kd.C_drewN ?_ _) | (with_reducible refine Kd.C_drew ?_))); (case side4 => exact (Kd.R_reads' HO630.out).2.1); rintro e w' ⟨rfl, ⟨nd, rfl⟩⟩; refine ⟨_, rfl, ?_⟩))
    go_meet
    case rel => exact ⟨_, ((t635 != t628)), qS, H', ⟨by first | omega | exact Nat.le_refl _⟩, ⟨by (with_reducible repeat (first | apply Kd.R_alloc | apply Kd.R_drewN | apply Kd.R_drew)); exact Kd.R_mono HO630.out (fun _ hk => hk.2)⟩, ⟨by (with_reducible repeat (first | apply Kd.R_alloc | apply Kd.R_drewN | apply Kd.R_drew)); exact Kd.R_mono HO633.out (fun _ hk => trivial)⟩, ⟨by (with_reducible repeat (first | apply Kd.R_alloc | apply Kd.R_drewN | apply Kd.R_drew)); exact Kd.R_mono HO637.out (fun _ hk => hk.2)⟩, ⟨qB⟩⟩
   ·replace c16 := Bool.eq_false_iff.mpr c16
    subst c16
    have H1 : (laws_FnExactStateFrom.j0 k a0 l1 t627 t628 t631 t634 t635 true) = some true := by rw [if_neg (show ¬ (false = true) by decide)] at H; exact H
    exact absurd H1 (by cases k <;> simp [laws_FnExactStateFrom.j0])
  case rest =>
   clear HC8
   try clear c1
   try clear c2
   try clear p2
   try clear c3
   try clear c3b0
   try clear c3b1
   try clear c7
   try clear c16
   obtain ⟨kq, x41_7, rfl, HA, HJ7, HO_5, HO_7, HO_8, HB⟩ := hcut
   cases kq with
   | zero => exact absurd HA.out (by simp [laws_FnExactStateFrom.j0])
   | succ kj7 =>
    have H := HA.out
    clear HA
    simp only [laws_FnExactStateFrom.j0] at H
    by_cases c21 : x41_7 = true
    ·subst c21
     have H1 : (some false) = some true := by rw [if_pos rfl] at H; exact H
     exact absurd H1 (by simp)
    ·replace c21 := Bool.eq_false_iff.mpr c21
     subst c21
     have H1 : ((laws_toBoolS.f kj7 l1).bind fun t639 => ((laws_eqBoolS.f kj7 t631 t639).bind fun t642 => (if t642 = true then ((laws_markBoolS.f kj7 t631 1).bind fun bt643 => (if bt643.1 < 0 then (laws_FnExactStateFrom.j1 kj7 a0 l1 t627 t628 t634 true) else ((laws_eqUint64S.f kj7 t634 t627).bind fun t645 => (if t645 = true then (laws_FnExactStateFrom.j1 kj7 a0 l1 t627 t628 t634 (t635 != t628)) else (laws_FnExactStateFrom.j1 kj7 a0 l1 t627 t628 t634 true))))) else (some false)))) = some true := by rw [if_neg (show ¬ (false = true) by decide)] at H; exact H
     clear H
     have H := H1
     clear H1
     replace H := Option.bind_eq_some_iff.mp H
     obtain ⟨t639, A220, H⟩ := H
     replace H : ((laws_eqBoolS.f kj7 t631 t639).bind fun t642 => (if t642 = true then ((laws_markBoolS.f kj7 t631 1).bind fun bt643 => (if bt643.1 < 0 then (laws_FnExactStateFrom.j1 kj7 a0 l1 t627 t628 t634 true) else ((laws_eqUint64S.f kj7 t634 t627).bind fun t645 => (if t645 = true then (laws_FnExactStateFrom.j1 kj7 a0 l1 t627 t628 t634 (t635 != t628)) else (laws_FnExactStateFrom.j1 kj7 a0 l1 t627 t628 t634 true))))) else (some false))) = some true := H
     have A22 := Aside0.mk A220
     clear A220
     replace H := Option.bind_eq_some_iff.mp H
     obtain ⟨t642, A230, H⟩ := H
     replace H : (if t642 = true then ((laws_markBoolS.f kj7 t631 1).bind fun bt643 => (if bt643.1 < 0 then (laws_FnExactStateFrom.j1 kj7 a0 l1 t627 t628 t634 true) else ((laws_eqUint64S.f kj7 t634 t627).bind fun t645 => (if t645 = true then (laws_FnExactStateFrom.j1 kj7 a0 l1 t627 t628 t634 (t635 != t628)) else (laws_FnExactStateFrom.j1 kj7 a0 l1 t627 t628 t634 true))))) else (some false)) = some true := H
     have A23 := Aside0.mk A230
     clear A230
     by_cases c24 : t642 = true
     ·subst c24
      have H1 : ((laws_markBoolS.f kj7 t631 1).bind fun bt643 => (if bt643.1 < 0 then (laws_FnExactStateFrom.j1 kj7 a0 l1 t627 t628 t634 true) else ((laws_eqUint64S.f kj7 t634 t627).bind fun t645 => (if t645 = true then (laws_FnExactStateFrom.j1 kj7 a0 l1 t627 t628 t634 (t635 != t628)) else (laws_FnExactStateFrom.j1 kj7 a0 l1 t627 t628 t634 true))))) = some true := by rw [if_pos rfl] at H; exact H
      clear H
      have H := H1
      clear H1
      replace H := Option.bind_eq_some_iff.mp H
      obtain ⟨⟨t643, t644⟩, A250, H⟩ := H
      replace H : (if t643 < 0 then (laws_FnExactStateFrom.j1 kj7 a0 l1 t627 t628 t634 true) else ((laws_eqUint64S.f kj7 t634 t627).bind fun t645 => (if t645 = true then (laws_FnExactStateFrom.j1 kj7 a0 l1 t627 t628 t634 (t635 != t628)) else (laws_FnExactStateFrom.j1 kj7 a0 l1 t627 t628 t634 true)))) = some true := H
      have A25 := Aside0.mk A250
      clear A250
      have HC26 := Aside0.mk H
      clear H
      go_upto_region 12 with (first | ((with_reducible refine gate_callee (f := 30) rfl ?_); refine goesL_ (some 44) rfl rfl Try.func30 (by kernel_rfl) rfl #[.slice A1 l1.length c1] rfl qG ?_; (with_reducible refine (laws_toBoolS.calls kj7 _ _ l1 t639 _ ?side1 ?side2 A22.out).mono ?_); (case side1 => exact qC (Kd.C_below HR1.out HB.out)); (case side2 => exact HC1.out); rintro e w27 ⟨v640, rfl, ho0, hb⟩; refine ⟨_, rfl, ?_⟩; have n0_ := Aside0.mk (Kd.R_below (qR HO_5.out) hb); have n1_ := Aside0.mk (Kd.R_elder' (qR HO_7.out) (Kd.R_base ho0) hb); have n2_ := Aside0.mk (Kd.R_below (qR HO_8.out) hb); have n3_ := Aside0.mk (Kd.R_lower (Kd.R_new' ho0 (Kd.R_lt (qR HO_7.out))) (below_size (qB))); have n4_ := Aside0.mk (below_step (qB) hb); clear HO_5; clear HO_7; clear HO_8; clear HB; have HO_5 := n0_; have HO_7 := n1_; have HO_8 := n2_; have HO641 := n3_; have HB := n4_; clear n0_ n1_ n2_ n3_ n4_; (try clear hb); (try clear hb2); (try clear hk); (try clear hi); (try clear ho0); obtain ⟨Ao28, co28, eo28⟩ := Kd.R_slice HO641.out; subst eo28) | ((with_reducible refine gate_callee (f := 25) rfl ?_); refine goesL_ (some 45) rfl rfl Try.func25 (by kernel_rfl) rfl #[.slice Ao13 t631.length co13, .slice Ao28 t639.length co28] rfl qG ?_; (with_reducible refine (laws_eqBoolS.calls kj7 _ _ t631 _ _ t639 true _ ?side1 ?side2 ?side3 ?side4 A23.out).mono ?_); (case side1 => repeat (first | exact (Kd.R_reads' HO_7.out).2.2 | (with_reducible refine Kd.C_alloc ?_ _) | (with_reducible refine Kd.C_drewN ?_ _) | (with_reducible refine Kd.C_drew ?_))); (case side2 => exact (Kd.R_reads' HO_7.out).2.1); (case side3 => repeat (first | exact (Kd.R_reads' HO641.out).2.2 | (with_reducible refine Kd.C_alloc ?_ _) | (with_reducible refine Kd.C_drewN ?_ _) | (with_reducible refine Kd.C_drew ?_))); (case side4 => exact (Kd.R_reads' HO641.out).2.1); rintro e w' ⟨rfl, ⟨nd, rfl⟩⟩; refine ⟨_, rfl, ?_⟩) | ((with_reducible refine gate_callee (f := 27) rfl ?_); refine goesL_ (some 49) rfl rfl Try.func27 (by kernel_rfl) rfl #[.slice Ao13 t631.length co13, .int .i64 1] rfl qG ?_; (with_reducible refine (laws_markBoolS.calls kj7 (fun k_ => some k_ = (.slice Ao13 t631.length co13 : Value).ownBlock) (.slice Ao13 t631.length co13) t631 1 t643 t644 w _ ?side1 ?side2 A25.out).mono ?_); (case side1 => repeat (first | (with_reducible first | exact HB.out | apply below_alloc | apply pw_below_drewN | apply below_drew1) | exact HB.out)); (case side2 => exact Kd.R_tight rfl HO_7.out); rintro e w29 ⟨rfl, hy0, hb, hkp⟩; refine ⟨_, rfl, ?_⟩; have n0_ := Aside0.mk (Kd.R_mono (ok' := fun k_ => some k_ ≠ (v636 : Value).ownBlock) (Kd.R_keptB ((Kd.R_apart' HO_5.out (Kd.R_typed HO_7.out) (by decide))) hkp (fun k_ hk_ hs_ => (hk_.2) hs_)) (fun k_ hk_ => hk_.1.1)); have n1_ := Aside0.mk (Kd.R_reok rfl hy0 (fun k_ e_ => HO_7.out.1 k_ e_)); have n2_ := Aside0.mk (Kd.R_mono (ok' := fun k_ => some k_ ≠ (v629 : Value).ownBlock) (Kd.R_keptB ((Kd.R_apart' HO_8.out (Kd.R_typed HO_7.out) (by decide))) hkp (fun k_ hk_ hs_ => (hk_.2) hs_)) (fun k_ hk_ => hk_.1.1)); have n3_ := Aside0.mk (Kd.R_mono (ok' := fun k_ => some k_ ≠ (.slice Ao13 t631.length co13 : Value).ownBlock) (Kd.R_keptB (HO641.out) hkp (fun k_ hk_ hs_ => (hk_.2) hs_)) (fun k_ hk_ => hk_.1.2)); have n4_ := Aside0.mk (hb); clear HO_5; clear HO_7; clear HO_8; clear HO641; clear HB; have HO_5 := n0_; have HO_7 := n1_; have HO_8 := n2_; have HO641 := n3_; have HB := n4_; clear n0_ n1_ n2_ n3_ n4_; (try clear hb); (try clear hkp); (try clear hy0)))
      (try simp only [Act.put, List.setIfInBounds_toArray, List.set_cons_zero, List.set_cons_succ])
      go_cut [62] (fun v62 wc => ∃ (kq : Nat) (x62_25 : Bool), v62 = .bool x62_25 ∧ Aside0 (laws_FnExactStateFrom.j1 kq a0 l1 t627 t628 t634 x62_25 = some true) ∧ Aside0 (kq ≤ kj7) ∧ Aside0 (Kd.R (Kd.int .u64) 40 wc w.heap.size (fun k_ => some k_ ≠ (v636 : Value).ownBlock) v629 t627) ∧ Aside0 (Kd.R (Kd.int .u64) 40 wc w.heap.size (fun k_ => some k_ ≠ (v629 : Value).ownBlock) v636 t634) ∧ Aside0 (Below w.heap.size w wc))
      case first =>
       have H := HC26.out
       clear HC26
       by_cases c30 : t643 < 0
       ·rw [if_pos c30] at H
        exact absurd H (by cases kj7 <;> simp [laws_FnExactStateFrom.j1])
       ·rw [if_neg c30] at H
        have c30b0 : decide (t643 < 0) = false := decide_eq_false c30
        clear c30
        (first | rw [c30b0] | (simp only [i64_w, i32_w]; rw [c30b0]) | skip)
        replace H := Option.bind_eq_some_iff.mp H
        obtain ⟨t645, A310, H⟩ := H
        replace H : (if t645 = true then (laws_FnExactStateFrom.j1 kj7 a0 l1 t627 t628 t634 (t635 != t628)) else (laws_FnExactStateFrom.j1 kj7 a0 l1 t627 t628 t634 true)) = some true := H
        have A31 := Aside0.mk A310
        clear A310
        by_cases c32 : t645 = true
        ·subst c32
         have H1 : (laws_FnExactStateFrom.j1 kj7 a0 l1 t627 t628 t634 (t635 != t628)) = some true := by rw [if_pos rfl] at H; exact H
         clear H
         have H := H1
         clear H1
         have H' := Aside0.mk H
         clear H
         obtain ⟨Ao33, co33, eo33⟩ := Kd.R_slice HO_8.out
         subst eo33
         obtain ⟨Ao34, co34, eo34⟩ := Kd.R_slice HO_5.out
         subst eo34
         go_wp2_with (first | (go_at_call 22; (with_reducible refine (laws_eqUint64S.calls kj7 _ _ t634 _ _ t627 true _ ?side1 ?side2 ?side3 ?side4 A31.out).mono ?_); (case side1 => repeat (first | exact (Kd.R_reads' HO_8.out).2.2 | (with_reducible refine Kd.C_alloc ?_ _) | (with_reducible refine Kd.C_drewN ?_ _) | (with_reducible refine Kd.C_drew ?_))); (case side2 => exact (Kd.R_reads' HO_8.out).2.1); (case side3 => repeat (first | exact (Kd.R_reads' HO_5.out).2.2 | (with_reducible refine Kd.C_alloc ?_ _) | (with_reducible refine Kd.C_drewN ?_ _) | (with_reducible refine Kd.C_drew ?_))); (case side4 => exact (Kd.R_reads' HO_5.out).2.1); rintro e w' ⟨rfl, ⟨nd, rfl⟩⟩))
         go_meet
         case rel => exact ⟨_, ((t635 != t628)), qS, H', ⟨by have := HJ7.out; first | omega | exact Nat.le_refl _⟩, ⟨qR HO_5.out⟩, ⟨qR HO_8.out⟩, ⟨qB⟩⟩
        ·replace c32 := Bool.eq_false_iff.mpr c32
         subst c32
         have H1 : (laws_FnExactStateFrom.j1 kj7 a0 l1 t627 t628 t634 true) = some true := by rw [if_neg (show ¬ (false = true) by decide)] at H; exact H
         exact absurd H1 (by cases kj7 <;> simp [laws_FnExactStateFrom.j1])
      case rest =>
       clear HC26
       try clear c1
       try clear c2
       try clear p2
       try clear c3
       try clear c3b0
       try clear c3b1
       try clear c7
       try clear c16
       try clear c21
       try clear c22
       try clear c24
       try clear c25
       try clear c27
       try clear c29
       try clear c30
       try clear c30b0
       try clear c31
       try clear c32
       try clear p2
       obtain ⟨kq, x62_25, rfl, HA, HJ25, HO_5, HO_8, HB⟩ := hcut
       cases kq with
       | zero => exact absurd HA.out (by simp [laws_FnExactStateFrom.j1])
       | succ kj25 =>
        have H := HA.out
        clear HA
        simp only [laws_FnExactStateFrom.j1] at H
        by_cases c37 : x62_25 = true
        ·subst c37
         have H1 : (some false) = some true := by rw [if_pos rfl] at H; exact H
         exact absurd H1 (by simp)
        ·replace c37 := Bool.eq_false_iff.mpr c37
         subst c37
         have H1 : ((laws_markUint64S.f kj25 t634 1).bind fun bt646 => ((laws_heldUint64S.f kj25 bt646.2 1).bind fun t648 => (if t648 < 0 then (some false) else (if t648 = bt646.1 then ((laws_toBoolS.f kj25 l1).bind fun t649 => ((impl_StateFrom.f a0 t649).bind fun bt652 => ((laws_eqUint64S.f kj25 bt652.1 t627).bind fun t656 => (if t656 = true then (laws_FnExactStateFrom.j2 kj25 bt646.2 bt646.1 (bt652.2 != t628)) else (laws_FnExactStateFrom.j2 kj25 bt646.2 bt646.1 true))))) else (some false))))) = some true := by rw [if_neg (show ¬ (false = true) by decide)] at H; exact H
         clear H
         have H := H1
         clear H1
         replace H := Option.bind_eq_some_iff.mp H
         obtain ⟨⟨t646, t647⟩, A380, H⟩ := H
         replace H : ((laws_heldUint64S.f kj25 t647 1).bind fun t648 => (if t648 < 0 then (some false) else (if t648 = t646 then ((laws_toBoolS.f kj25 l1).bind fun t649 => ((impl_StateFrom.f a0 t649).bind fun bt652 => ((laws_eqUint64S.f kj25 bt652.1 t627).bind fun t656 => (if t656 = true then (laws_FnExactStateFrom.j2 kj25 t647 t646 (bt652.2 != t628)) else (laws_FnExactStateFrom.j2 kj25 t647 t646 true))))) else (some false)))) = some true := H
         have A38 := Aside0.mk A380
         clear A380
         replace H := Option.bind_eq_some_iff.mp H
         obtain ⟨t648, A390, H⟩ := H
         replace H : (if t648 < 0 then (some false) else (if t648 = t646 then ((laws_toBoolS.f kj25 l1).bind fun t649 => ((impl_StateFrom.f a0 t649).bind fun bt652 => ((laws_eqUint64S.f kj25 bt652.1 t627).bind fun t656 => (if t656 = true then (laws_FnExactStateFrom.j2 kj25 t647 t646 (bt652.2 != t628)) else (laws_FnExactStateFrom.j2 kj25 t647 t646 true))))) else (some false))) = some true := H
         have A39 := Aside0.mk A390
         clear A390
         by_cases c40 : t648 < 0
         ·rw [if_pos c40] at H
          exact absurd H (by simp)
         ·rw [if_neg c40] at H
          have c40b0 : decide (t648 < 0) = false := decide_eq_false c40
          clear c40
          by_cases c43 : t648 = t646
          ·rw [if_pos c43] at H
           have c43b0 : (t648 == t646) = true := beq_iff_eq.mpr c43
           have c43b1 : (t648 != t646) = false := bne_eq_false_iff_eq.mpr c43
           clear c43
           replace H := Option.bind_eq_some_iff.mp H
           obtain ⟨t649, A440, H⟩ := H
           replace H : ((impl_StateFrom.f a0 t649).bind fun bt652 => ((laws_eqUint64S.f kj25 bt652.1 t627).bind fun t656 => (if t656 = true then (laws_FnExactStateFrom.j2 kj25 t647 t646 (bt652.2 != t628)) else (laws_FnExactStateFrom.j2 kj25 t647 t646 true)))) = some true := H
           have A44 := Aside0.mk A440
           clear A440
           replace H := Option.bind_eq_some_iff.mp H
           obtain ⟨⟨t652, t653⟩, A450, H⟩ := H
           replace H : ((laws_eqUint64S.f kj25 t652 t627).bind fun t656 => (if t656 = true then (laws_FnExactStateFrom.j2 kj25 t647 t646 (t653 != t628)) else (laws_FnExactStateFrom.j2 kj25 t647 t646 true))) = some true := H
           have A45 := Aside0.mk A450
           clear A450
           have HC46 := Aside0.mk H
           clear H
           obtain ⟨Ao47, co47, eo47⟩ := Kd.R_slice HO_8.out
           subst eo47
           go_upto_region 23 with (first | ((with_reducible refine gate_callee (f := 26) rfl ?_); refine goesL_ (some 65) rfl rfl Try.func26 (by kernel_rfl) rfl #[.slice Ao47 t634.length co47, .int .i64 1] rfl qG ?_; (with_reducible refine (laws_markUint64S.calls kj25 (fun k_ => some k_ = (.slice Ao47 t634.length co47 : Value).ownBlock) (.slice Ao47 t634.length co47) t634 1 t646 t647 w _ ?side1 ?side2 A38.out).mono ?_); (case side1 => repeat (first | (with_reducible first | exact HB.out | apply below_alloc | apply pw_below_drewN | apply below_drew1) | exact HB.out)); (case side2 => exact Kd.R_tight rfl HO_8.out); rintro e w48 ⟨rfl, hy0, hb, hkp⟩; refine ⟨_, rfl, ?_⟩; have n0_ := Aside0.mk (Kd.R_mono (ok' := fun k_ => some k_ ≠ (.slice Ao47 t634.length co47 : Value).ownBlock) (Kd.R_keptB (HO_5.out) hkp (fun k_ hk_ hs_ => (hk_) hs_)) (fun k_ hk_ => hk_.1)); have n1_ := Aside0.mk (Kd.R_reok rfl hy0 (fun k_ e_ => HO_8.out.1 k_ e_)); have n2_ := Aside0.mk (hb); clear HO_5; clear HO_8; clear HB; have HO_5 := n0_; have HO_8 := n1_; have HB := n2_; clear n0_ n1_ n2_; (try clear hb); (try clear hkp); (try clear hy0)) | ((with_reducible refine gate_callee (f := 32) rfl ?_); refine goesL_ (some 68) rfl rfl Try.func32 (by kernel_rfl) rfl #[.slice Ao47 t647.length co47, .int .i64 1] rfl (by (try simp only [List.map_toArray, List.map_cons, List.map_nil]); first | done | (rw [show t647.length = t634.length from (Kd.R_reads' HO_8.out).1.symm] <;> rfl) | rfl | (simp only [List.length_drop, List.length_take]; rfl)) ?_; (with_reducible refine (laws_heldUint64S.calls kj25 _ _ t647 1 t648 _ ?side1 ?side2 A39.out).mono ?_); (case side1 => repeat (first | exact (Kd.R_reads' HO_8.out).2.2 | (with_reducible refine Kd.C_alloc ?_ _) | (with_reducible refine Kd.C_drewN ?_ _) | (with_reducible refine Kd.C_drew ?_))); (case side2 => rw [show t647.length = t634.length from (Kd.R_reads' HO_8.out).1.symm]; exact (Kd.R_reads' HO_8.out).2.1); rintro e w' ⟨rfl, ⟨nd, rfl⟩⟩; refine ⟨_, rfl, ?_⟩) | ((with_reducible refine gate_callee (f := 30) rfl ?_); refine goesL_ (some 77) rfl rfl Try.func30 (by kernel_rfl) rfl #[.slice A1 l1.length c1] rfl qG ?_; (with_reducible refine (laws_toBoolS.calls kj25 _ _ l1 t649 _ ?side1 ?side2 A44.out).mono ?_); (case side1 => repeat (first | exact (Kd.C_below HR1.out (qB)) | (with_reducible refine Kd.C_alloc ?_ _) | (with_reducible refine Kd.C_drewN ?_ _) | (with_reducible refine Kd.C_drew ?_))); (case side2 => exact HC1.out); rintro e w49 ⟨v650, rfl, ho0, hb⟩; refine ⟨_, rfl, ?_⟩; have n0_ := Aside0.mk (Kd.R_below (qR HO_5.out) hb); have n1_ := Aside0.mk (Kd.R_below (qR HO_8.out) hb); have n2_ := Aside0.mk (Kd.R_lower ho0 (below_size (qB))); have n3_ := Aside0.mk (below_step (qB) hb); clear HO_5; clear HO_8; clear HB; have HO_5 := n0_; have HO_8 := n1_; have HO651 := n2_; have HB := n3_; clear n0_ n1_ n2_ n3_; (try clear hb); (try clear hb2); (try clear hk); (try clear hi); (try clear ho0); obtain ⟨Ao50, co50, eo50⟩ := Kd.R_slice HO651.out; subst eo50) | ((with_reducible refine gate_callee (f := 31) rfl ?_); refine goesL_ (some 78) rfl rfl Try.func31 (by kernel_rfl) rfl #[.int .i64 a0, .slice Ao50 t649.length co50] rfl qG ?_; (with_reducible refine (impl_StateFrom.calls a0 _ _ t649 t652 t653 _ ?side1 ?side2 A45.out).mono ?_); (case side1 => repeat (first | exact (Kd.R_reads' HO651.out).2.2 | (with_reducible refine Kd.C_alloc ?_ _) | (with_reducible refine Kd.C_drewN ?_ _) | (with_reducible refine Kd.C_drew ?_))); (case side2 => exact (Kd.R_reads' HO651.out).2.1); rintro e w51 ⟨v654, rfl, ho0, hb⟩; refine ⟨_, rfl, ?_⟩; have n0_ := Aside0.mk (Kd.R_elder' (qR HO_5.out) (Kd.R_base ho0) hb); have n1_ := Aside0.mk (Kd.R_elder' (qR HO_8.out) (Kd.R_base ho0) hb); have n2_ := Aside0.mk (Kd.R_below (qR HO651.out) hb); have n3_ := Aside0.mk (Kd.R_lower (Kd.R_new' (Kd.R_new' ho0 (Kd.R_lt (qR HO_5.out))) (Kd.R_lt (qR HO_8.out))) (below_size (qB))); have n4_ := Aside0.mk (below_step (qB) hb); clear HO_5; clear HO_8; clear HO651; clear HB; have HO_5 := n0_; have HO_8 := n1_; have HO651 := n2_; have HO655 := n3_; have HB := n4_; clear n0_ n1_ n2_ n3_ n4_; (try clear hb); (try clear hb2); (try clear hk); (try clear hi); (try clear ho0)))
           (try simp only [Act.put, List.setIfInBounds_toArray, List.set_cons_zero, List.set_cons_succ])
           go_cut [89] (fun v89 wc => ∃ (kq : Nat) (x89_45 : Bool), v89 = .bool x89_45 ∧ Aside0 (laws_FnExactStateFrom.j2 kq t647 t646 x89_45 = some true) ∧ Aside0 (kq ≤ kj25) ∧ Aside0 (Kd.R (Kd.int .u64) 40 wc w.heap.size (fun _ => True) (.slice Ao47 t634.length co47) t647) ∧ Aside0 (Below w.heap.size w wc))
           case first =>
            have H := HC46.out
            clear HC46
            replace H := Option.bind_eq_some_iff.mp H
            obtain ⟨t656, A520, H⟩ := H
            replace H : (if t656 = true then (laws_FnExactStateFrom.j2 kj25 t647 t646 (t653 != t628)) else (laws_FnExactStateFrom.j2 kj25 t647 t646 true)) = some true := H
            have A52 := Aside0.mk A520
            clear A520
            by_cases c53 : t656 = true
            ·subst c53
             have H1 : (laws_FnExactStateFrom.j2 kj25 t647 t646 (t653 != t628)) = some true := by rw [if_pos rfl] at H; exact H
             clear H
             have H := H1
             clear H1
             have H' := Aside0.mk H
             clear H
             obtain ⟨Ao54, co54, eo54⟩ := Kd.R_slice HO655.out
             subst eo54
             obtain ⟨Ao55, co55, eo55⟩ := Kd.R_slice HO_5.out
             subst eo55
             go_wp2_with (first | ((with_reducible refine gate_callee (f := 22) rfl ?_); refine goesL_ (some 83) rfl rfl Try.func22 (by kernel_rfl) rfl #[.slice Ao54 t652.length co54, .slice Ao55 t627.length co55] rfl qG ?_; (with_reducible refine (laws_eqUint64S.calls kj25 _ _ t652 _ _ t627 true _ ?side1 ?side2 ?side3 ?side4 A52.out).mono ?_); (case side1 => repeat (first | exact (Kd.R_reads' HO655.out).2.2 | (with_reducible refine Kd.C_alloc ?_ _) | (with_reducible refine Kd.C_drewN ?_ _) | (with_reducible refine Kd.C_drew ?_))); (case side2 => exact (Kd.R_reads' HO655.out).2.1); (case side3 => repeat (first | exact (Kd.R_reads' HO_5.out).2.2 | (with_reducible refine Kd.C_alloc ?_ _) | (with_reducible refine Kd.C_drewN ?_ _) | (with_reducible refine Kd.C_drew ?_))); (case side4 => exact (Kd.R_reads' HO_5.out).2.1); rintro e w' ⟨rfl, ⟨nd, rfl⟩⟩; refine ⟨_, rfl, ?_⟩))
             go_meet
             case rel => exact ⟨_, ((t653 != t628)), qS, H', ⟨by have := HJ7.out; have := HJ25.out; first | omega | exact Nat.le_refl _⟩, ⟨by (with_reducible repeat (first | apply Kd.R_alloc | apply Kd.R_drewN | apply Kd.R_drew)); exact Kd.R_mono HO_8.out (fun _ hk => trivial)⟩, ⟨qB⟩⟩
            ·replace c53 := Bool.eq_false_iff.mpr c53
             subst c53
             have H1 : (laws_FnExactStateFrom.j2 kj25 t647 t646 true) = some true := by rw [if_neg (show ¬ (false = true) by decide)] at H; exact H
             exact absurd H1 (by cases kj25 <;> simp [laws_FnExactStateFrom.j2])
           case rest =>
            clear HC46
            try clear c1
            try clear c2
            try clear p2
            try clear c3
            try clear c3b0
            try clear c3b1
            try clear c4
            try clear c5
            try clear c7
            try clear c16
            try clear c21
            try clear c22
            try clear c24
            try clear c25
            try clear c26
            try clear c27
            try clear c29
            try clear c30
            try clear c30b0
            try clear c31
            try clear c32
            try clear c37
            try clear c40
            try clear c40b0
            try clear c43
            try clear c43b0
            try clear c43b1
            try clear c53
            try clear p2
            obtain ⟨kq, x89_45, rfl, HA, HJ45, HO_8, HB⟩ := hcut
            have hl8_45 := (Kd.R_reads' HO_8.out).1
            rw [hl8_45] at HO_8
            (try simp only [hl8_45])
            cases kq with
            | zero => exact absurd HA.out (by simp [laws_FnExactStateFrom.j2])
            | succ kj45 =>
             have H := HA.out
             clear HA
             simp only [laws_FnExactStateFrom.j2] at H
             by_cases c58 : x89_45 = true
             ·subst c58
              have H1 : (some false) = some true := by rw [if_pos rfl] at H; exact H
              exact absurd H1 (by simp)
             ·replace c58 := Bool.eq_false_iff.mpr c58
              subst c58
              have H1 : ((laws_heldUint64S.f kj45 t647 1).bind fun t657 => (if t657 < 0 then (some false) else (if t657 = t646 then (some true) else (some false)))) = some true := by rw [if_neg (show ¬ (false = true) by decide)] at H; exact H
              clear H
              have H := H1
              clear H1
              replace H := Option.bind_eq_some_iff.mp H
              obtain ⟨t657, A590, H⟩ := H
              replace H : (if t657 < 0 then (some false) else (if t657 = t646 then (some true) else (some false))) = some true := H
              have A59 := Aside0.mk A590
              clear A590
              by_cases c60 : t657 < 0
              ·rw [if_pos c60] at H
               exact absurd H (by simp)
              ·rw [if_neg c60] at H
               have c60b0 : decide (t657 < 0) = false := decide_eq_false c60
               clear c60
               by_cases c61 : t657 = t646
               ·rw [if_pos c61] at H
                have c61b0 : (t657 == t646) = true := beq_iff_eq.mpr c61
                have c61b1 : (t657 != t646) = false := bne_eq_false_iff_eq.mpr c61
                clear c61
                go_wp2_with (first | ((with_reducible refine gate_callee (f := 32) rfl ?_); refine goesL_ (some 92) rfl rfl Try.func32 (by kernel_rfl) rfl #[.slice Ao47 t647.length co47, .int .i64 1] rfl qG ?_; (with_reducible refine (laws_heldUint64S.calls kj45 _ _ t647 1 t657 _ ?side1 ?side2 A59.out).mono ?_); (case side1 => repeat (first | exact (Kd.R_reads' HO_8.out).2.2 | (with_reducible refine Kd.C_alloc ?_ _) | (with_reducible refine Kd.C_drewN ?_ _) | (with_reducible refine Kd.C_drew ?_))); (case side2 => exact (Kd.R_reads' HO_8.out).2.1); rintro e w' ⟨rfl, ⟨nd, rfl⟩⟩; refine ⟨_, rfl, ?_⟩))
                go_ret
                exact ⟨qE, qB⟩
               ·rw [if_neg c61] at H
                exact absurd H (by simp)
          ·rw [if_neg c43] at H
           exact absurd H (by simp)
     ·replace c24 := Bool.eq_false_iff.mpr c24
      subst c24
      have H1 : (some false) = some true := by rw [if_neg (show ¬ (false = true) by decide)] at H; exact H
      exact absurd H1 (by simp)
/-- THE PURE STATEMENT of laws_FnExactStateFrom. -/
def laws_FnExactStateFrom.Pure : Prop := ∀ (a0 : Int) (l1 : List Bool), (Lit.int .i64 a0).wf = true → ((l1).length ≤ maxLen ∧ ∀ y ∈ l1, True) → ∃ k, laws_FnExactStateFrom.f k a0 l1 = some true
theorem laws_FnExactStateFrom.walk (P : laws_FnExactStateFrom.Pure) (a0 : Int) (A1 : Option Addr) (c1 : Nat) (l1 : List Bool) (w : World) (hr1 : Kd.C Kd.bool w A1 l1.length l1) (hc1 : l1.length ≤ c1) (w0 : (Lit.int .i64 a0).wf = true) (w1 : ((l1).length ≤ maxLen ∧ ∀ y ∈ l1, True)) :
  Calls Try.prog 7 #[.int .i64 a0, .slice A1 l1.length c1] w fun e w' => e = .returned (.bool true) ∧ Below w.heap.size w w' := by
 obtain ⟨k, h⟩ := P a0 l1 w0 w1
 refine (laws_FnExactStateFrom.calls k a0 A1 c1 l1 true w hr1 hc1 h).mono ?_
 rintro e w' ⟨rfl, hd⟩
 exact ⟨rfl, hd⟩

end Go.Proofs.Ytckgeanmljmhfaa.X
