/- Each Go function as a Lean function, with the proof that the call comes to just its answer; or a law's row out of its pure statement. Conditions: the arguments are of their kinds. Written by this session's program wip/xp/xp.sh. -/
import Derived.Test.YtckdgmbmjfhodaaX0
import Derived.Test.YtckdgmbmjfhodaaX1
import Derived.Test.YtckdgmbmjfhodaaX7
import Derived.Test.YtckdgmbmjfhodaaX11
import Derived.Test.YtckdgmbmjfhodaaX18
import Derived.Test.YtckdgmbmjfhodaaX33
import Derived.Test.YtckdgmbmjfhodaaXO
namespace Go.Proofs.Ytckdgmbmjfhodaa.X
open Go.RowKit Go.Proofs.YtckdgmbmjfhodaaW.PrintWords Go.Proofs.YtckdgmbmjfhodaaW.PrintLast Go.Proofs.YtckdgmbmjfhodaaW.PrintMore
attribute [local go_sem] max2_int min2_int max_two min_two max_three min_three max_four min_four   -- for this text's walks alone
set_option linter.unusedVariables false
set_option linter.unusedSimpArgs false

/-! ### laws_FnExactFoldTerm: function 5 -/
mutual
def laws_FnExactFoldTerm.j0 : Nat → Int → Int → List (S54) → List (S52) → Bool → List (S52) → List (S52) → Bool → Bool → Option (Bool)
  | 0, _, _, _, _, _, _, _, _, _ => none
  | k + 1, x0, x1, x2, x8, x9, x10, x11, x12, x48 => if x48 = true then (some false) else ((laws_toNodeS.f k x2).bind fun t685 => ((laws_eqNodeS.f k x10 t685).bind fun t688 => (if t688 = true then ((laws_markNodeS.f k x10 1).bind fun bt689 => (if bt689.1 < 0 then (laws_FnExactFoldTerm.j1 k x0 x1 x2 x8 x9 x11 true) else ((laws_eqNodeS.f k x11 x8).bind fun t691 => (if t691 = true then (laws_FnExactFoldTerm.j1 k x0 x1 x2 x8 x9 x11 (x12 != x9)) else (laws_FnExactFoldTerm.j1 k x0 x1 x2 x8 x9 x11 true))))) else (some false))))
def laws_FnExactFoldTerm.j1 : Nat → Int → Int → List (S54) → List (S52) → Bool → List (S52) → Bool → Option (Bool)
  | 0, _, _, _, _, _, _, _ => none
  | k + 1, x0, x1, x2, x8, x9, x11, x69 => if x69 = true then (some false) else ((laws_markNodeS.f k x11 1).bind fun bt692 => ((laws_heldNodeS.f k bt692.2 1).bind fun t694 => (if t694 < 0 then (some false) else (if t694 = bt692.1 then ((laws_toNodeS.f k x2).bind fun t695 => ((impl_FoldTerm.f k x0 x1 t695).bind fun bt698 => ((laws_eqNodeS.f k bt698.1 x8).bind fun t702 => (if t702 = true then (laws_FnExactFoldTerm.j2 k bt692.2 bt692.1 (bt698.2 != x9)) else (laws_FnExactFoldTerm.j2 k bt692.2 bt692.1 true))))) else (some false)))))
def laws_FnExactFoldTerm.j2 : Nat → List (S52) → Int → Bool → Option (Bool)
  | 0, _, _, _ => none
  | k + 1, x11, x14, x97 => if x97 = true then (some false) else ((laws_heldNodeS.f k x11 1).bind fun t703 => (if t703 < 0 then (some false) else (if t703 = x14 then (some true) else (some false))))
end
def laws_FnExactFoldTerm.f (k : Nat) (a0 : Int) (a1 : Int) (l2 : List (S54)) : Option (Bool) := (laws_szNodeS.f l2 1048576).bind fun t669 => (if t669 < 0 then (some true) else ((laws_toNodeS.f k l2).bind fun t670 => ((spec_FoldTerm.f k a0 a1 t670).bind fun bt673 => ((laws_toNodeS.f k l2).bind fun t677 => ((impl_FoldTerm.f k a0 a1 t677).bind fun bt680 => ((laws_eqNodeS.f k bt680.1 bt673.1).bind fun t684 => (if t684 = true then (laws_FnExactFoldTerm.j0 k a0 a1 l2 bt673.1 bt673.2 t677 bt680.1 bt680.2 (bt680.2 != bt673.2)) else (laws_FnExactFoldTerm.j0 k a0 a1 l2 bt673.1 bt673.2 t677 bt680.1 bt680.2 true))))))))
theorem laws_FnExactFoldTerm.mono_l : ∀ k, (∀ y0 y1 y2 y3 y4 y5 y6 y7 y8, LeO (laws_FnExactFoldTerm.j0 k y0 y1 y2 y3 y4 y5 y6 y7 y8) (laws_FnExactFoldTerm.j0 (k + 1) y0 y1 y2 y3 y4 y5 y6 y7 y8)) ∧ (∀ y0 y1 y2 y3 y4 y5 y6, LeO (laws_FnExactFoldTerm.j1 k y0 y1 y2 y3 y4 y5 y6) (laws_FnExactFoldTerm.j1 (k + 1) y0 y1 y2 y3 y4 y5 y6)) ∧ (∀ y0 y1 y2, LeO (laws_FnExactFoldTerm.j2 k y0 y1 y2) (laws_FnExactFoldTerm.j2 (k + 1) y0 y1 y2))
  | 0 => ⟨fun _ _ _ _ _ _ _ _ _ r h => by simp [laws_FnExactFoldTerm.j0] at h, fun _ _ _ _ _ _ _ r h => by simp [laws_FnExactFoldTerm.j1] at h, fun _ _ _ r h => by simp [laws_FnExactFoldTerm.j2] at h⟩
  | k + 1 => by
    obtain ⟨ih0, ih1, ih2⟩ := laws_FnExactFoldTerm.mono_l k
    refine ⟨?_, ?_, ?_⟩
    · intro y0 y1 y2 y3 y4 y5 y6 y7 y8
      unfold laws_FnExactFoldTerm.j0
      repeat' first
      | (with_reducible exact ih0 _ _ _ _ _ _ _ _ _)
      | (with_reducible exact ih1 _ _ _ _ _ _ _)
      | (with_reducible exact ih2 _ _ _)
      | (with_reducible exact impl_FoldTerm.mono _ _ _ _)
      | (with_reducible exact laws_eqNodeS.mono _ _ _)
      | (with_reducible exact laws_heldNodeS.mono _ _ _)
      | (with_reducible exact laws_markNodeS.mono _ _ _)
      | (with_reducible exact laws_toNodeS.mono _ _)
      | (with_reducible exact spec_FoldTerm.mono _ _ _ _)
      | (with_reducible exact LeO.refl _)
      | (with_reducible exact LeO.none _)
      | (with_reducible refine LeO.ite ?_ ?_)
      | (with_reducible refine LeO.bind ?_ (fun _ => ?_))
      | exact ih0 _ _ _ _ _ _ _ _ _
      | exact ih1 _ _ _ _ _ _ _
      | exact ih2 _ _ _
      | exact impl_FoldTerm.mono _ _ _ _
      | exact laws_eqNodeS.mono _ _ _
      | exact laws_heldNodeS.mono _ _ _
      | exact laws_markNodeS.mono _ _ _
      | exact laws_toNodeS.mono _ _
      | exact spec_FoldTerm.mono _ _ _ _
      | exact LeO.none _
      | refine LeO.ite ?_ ?_
      | refine LeO.bind ?_ (fun _ => ?_)
    · intro y0 y1 y2 y3 y4 y5 y6
      unfold laws_FnExactFoldTerm.j1
      repeat' first
      | (with_reducible exact ih0 _ _ _ _ _ _ _ _ _)
      | (with_reducible exact ih1 _ _ _ _ _ _ _)
      | (with_reducible exact ih2 _ _ _)
      | (with_reducible exact impl_FoldTerm.mono _ _ _ _)
      | (with_reducible exact laws_eqNodeS.mono _ _ _)
      | (with_reducible exact laws_heldNodeS.mono _ _ _)
      | (with_reducible exact laws_markNodeS.mono _ _ _)
      | (with_reducible exact laws_toNodeS.mono _ _)
      | (with_reducible exact spec_FoldTerm.mono _ _ _ _)
      | (with_reducible exact LeO.refl _)
      | (with_reducible exact LeO.none _)
      | (with_reducible refine LeO.ite ?_ ?_)
      | (with_reducible refine LeO.bind ?_ (fun _ => ?_))
      | exact ih0 _ _ _ _ _ _ _ _ _
      | exact ih1 _ _ _ _ _ _ _
      | exact ih2 _ _ _
      | exact impl_FoldTerm.mono _ _ _ _
      | exact laws_eqNodeS.mono _ _ _
      | exact laws_heldNodeS.mono _ _ _
      | exact laws_markNodeS.mono _ _ _
      | exact laws_toNodeS.mono _ _
      | exact spec_FoldTerm.mono _ _ _ _
      | exact LeO.none _
      | refine LeO.ite ?_ ?_
      | refine LeO.bind ?_ (fun _ => ?_)
    · intro y0 y1 y2
      unfold laws_FnExactFoldTerm.j2
      repeat' first
      | (with_reducible exact ih0 _ _ _ _ _ _ _ _ _)
      | (with_reducible exact ih1 _ _ _ _ _ _ _)
      | (with_reducible exact ih2 _ _ _)
      | (with_reducible exact impl_FoldTerm.mono _ _ _ _)
      | (with_reducible exact laws_eqNodeS.mono _ _ _)
      | (with_reducible exact laws_heldNodeS.mono _ _ _)
      | (with_reducible exact laws_markNodeS.mono _ _ _)
      | (with_reducible exact laws_toNodeS.mono _ _)
      | (with_reducible exact spec_FoldTerm.mono _ _ _ _)
      | (with_reducible exact LeO.refl _)
      | (with_reducible exact LeO.none _)
      | (with_reducible refine LeO.ite ?_ ?_)
      | (with_reducible refine LeO.bind ?_ (fun _ => ?_))
      | exact ih0 _ _ _ _ _ _ _ _ _
      | exact ih1 _ _ _ _ _ _ _
      | exact ih2 _ _ _
      | exact impl_FoldTerm.mono _ _ _ _
      | exact laws_eqNodeS.mono _ _ _
      | exact laws_heldNodeS.mono _ _ _
      | exact laws_markNodeS.mono _ _ _
      | exact laws_toNodeS.mono _ _
      | exact spec_FoldTerm.mono _ _ _ _
      | exact LeO.none _
      | refine LeO.ite ?_ ?_
      | refine LeO.bind ?_ (fun _ => ?_)
theorem laws_FnExactFoldTerm.mono : ∀ a0 a1 a2 k, LeO (laws_FnExactFoldTerm.f k a0 a1 a2) (laws_FnExactFoldTerm.f (k + 1) a0 a1 a2) := by
  intro a0 a1 a2 k
  obtain ⟨ih0, ih1, ih2⟩ := laws_FnExactFoldTerm.mono_l k
  unfold laws_FnExactFoldTerm.f
  repeat' first
      | (with_reducible exact ih0 _ _ _ _ _ _ _ _ _)
      | (with_reducible exact ih1 _ _ _ _ _ _ _)
      | (with_reducible exact ih2 _ _ _)
      | (with_reducible exact impl_FoldTerm.mono _ _ _ _)
      | (with_reducible exact laws_eqNodeS.mono _ _ _)
      | (with_reducible exact laws_heldNodeS.mono _ _ _)
      | (with_reducible exact laws_markNodeS.mono _ _ _)
      | (with_reducible exact laws_toNodeS.mono _ _)
      | (with_reducible exact spec_FoldTerm.mono _ _ _ _)
      | (with_reducible exact LeO.refl _)
      | (with_reducible exact LeO.none _)
      | (with_reducible refine LeO.ite ?_ ?_)
      | (with_reducible refine LeO.bind ?_ (fun _ => ?_))
      | exact ih0 _ _ _ _ _ _ _ _ _
      | exact ih1 _ _ _ _ _ _ _
      | exact ih2 _ _ _
      | exact impl_FoldTerm.mono _ _ _ _
      | exact laws_eqNodeS.mono _ _ _
      | exact laws_heldNodeS.mono _ _ _
      | exact laws_markNodeS.mono _ _ _
      | exact laws_toNodeS.mono _ _
      | exact spec_FoldTerm.mono _ _ _ _
      | exact LeO.none _
      | refine LeO.ite ?_ ?_
      | refine LeO.bind ?_ (fun _ => ?_)
set_option maxHeartbeats 8000000 in
set_option maxRecDepth 100000 in
theorem laws_FnExactFoldTerm.calls (k : Nat) (a0 : Int) (a1 : Int) (A2 : Option Addr) (c2 : Nat) (l2 : List (S54)) (r : Bool) (w : World) (hr2 : Kd.C k54 w A2 l2.length l2) (hc2 : l2.length ≤ c2) (h : laws_FnExactFoldTerm.f k a0 a1 l2 = some r) :
    Calls Try.prog 5 #[.int .i64 a0, .int .i64 a1, .slice A2 l2.length c2] w fun e w' => e = .returned (.bool r) ∧ Below w.heap.size w w' := by
  have HR2 := Aside0.mk hr2
  have HC2 := Aside0.mk hc2
  clear hr2 hc2
  have HB := Aside0.mk (Below.refl w.heap.size w)
  have H : ((laws_szNodeS.f l2 1048576).bind fun t669 => (if t669 < 0 then (some true) else ((laws_toNodeS.f k l2).bind fun t670 => ((spec_FoldTerm.f k a0 a1 t670).bind fun bt673 => ((laws_toNodeS.f k l2).bind fun t677 => ((impl_FoldTerm.f k a0 a1 t677).bind fun bt680 => ((laws_eqNodeS.f k bt680.1 bt673.1).bind fun t684 => (if t684 = true then (laws_FnExactFoldTerm.j0 k a0 a1 l2 bt673.1 bt673.2 t677 bt680.1 bt680.2 (bt680.2 != bt673.2)) else (laws_FnExactFoldTerm.j0 k a0 a1 l2 bt673.1 bt673.2 t677 bt680.1 bt680.2 true))))))))) = some r := h
  clear h
  replace H := Option.bind_eq_some_iff.mp H
  obtain ⟨t669, A40, H⟩ := H
  replace H : (if t669 < 0 then (some true) else ((laws_toNodeS.f k l2).bind fun t670 => ((spec_FoldTerm.f k a0 a1 t670).bind fun bt673 => ((laws_toNodeS.f k l2).bind fun t677 => ((impl_FoldTerm.f k a0 a1 t677).bind fun bt680 => ((laws_eqNodeS.f k bt680.1 bt673.1).bind fun t684 => (if t684 = true then (laws_FnExactFoldTerm.j0 k a0 a1 l2 bt673.1 bt673.2 t677 bt680.1 bt680.2 (bt680.2 != bt673.2)) else (laws_FnExactFoldTerm.j0 k a0 a1 l2 bt673.1 bt673.2 t677 bt680.1 bt680.2 true)))))))) = some r := H
  have A4 := Aside0.mk A40
  clear A40
  by_cases c5 : t669 < 0
  · rw [if_pos c5] at H
    have c5b0 : decide (t669 < 0) = true := decide_eq_true c5
    clear c5
    obtain rfl := Option.some.inj H
    go_enter Try.func5, Try.ntmps5
    go_wp2_with (first | ((with_reducible refine gate_callee (f := 7) rfl ?_); refine goesL_ (some 20) rfl rfl Try.func7 (by kernel_rfl) rfl #[.slice A2 l2.length c2, .int .i64 1048576] rfl qG ?_; (with_reducible refine (laws_szNodeS.calls _ _ l2 1048576 t669 _ ?side1 ?side2 A4.out).mono ?_); (case side1 => exact qC HR2.out); (case side2 => exact HC2.out); rintro e w' ⟨rfl, ⟨nd, rfl⟩⟩; refine ⟨_, rfl, ?_⟩))
    go_ret
    exact ⟨qE, qB⟩
  · rw [if_neg c5] at H
    have c5b0 : decide (t669 < 0) = false := decide_eq_false c5
    clear c5
    replace H := Option.bind_eq_some_iff.mp H
    obtain ⟨t670, A60, H⟩ := H
    replace H : ((spec_FoldTerm.f k a0 a1 t670).bind fun bt673 => ((laws_toNodeS.f k l2).bind fun t677 => ((impl_FoldTerm.f k a0 a1 t677).bind fun bt680 => ((laws_eqNodeS.f k bt680.1 bt673.1).bind fun t684 => (if t684 = true then (laws_FnExactFoldTerm.j0 k a0 a1 l2 bt673.1 bt673.2 t677 bt680.1 bt680.2 (bt680.2 != bt673.2)) else (laws_FnExactFoldTerm.j0 k a0 a1 l2 bt673.1 bt673.2 t677 bt680.1 bt680.2 true)))))) = some r := H
    have A6 := Aside0.mk A60
    clear A60
    replace H := Option.bind_eq_some_iff.mp H
    obtain ⟨⟨t673, t674⟩, A70, H⟩ := H
    replace H : ((laws_toNodeS.f k l2).bind fun t677 => ((impl_FoldTerm.f k a0 a1 t677).bind fun bt680 => ((laws_eqNodeS.f k bt680.1 t673).bind fun t684 => (if t684 = true then (laws_FnExactFoldTerm.j0 k a0 a1 l2 t673 t674 t677 bt680.1 bt680.2 (bt680.2 != t674)) else (laws_FnExactFoldTerm.j0 k a0 a1 l2 t673 t674 t677 bt680.1 bt680.2 true))))) = some r := H
    have A7 := Aside0.mk A70
    clear A70
    replace H := Option.bind_eq_some_iff.mp H
    obtain ⟨t677, A80, H⟩ := H
    replace H : ((impl_FoldTerm.f k a0 a1 t677).bind fun bt680 => ((laws_eqNodeS.f k bt680.1 t673).bind fun t684 => (if t684 = true then (laws_FnExactFoldTerm.j0 k a0 a1 l2 t673 t674 t677 bt680.1 bt680.2 (bt680.2 != t674)) else (laws_FnExactFoldTerm.j0 k a0 a1 l2 t673 t674 t677 bt680.1 bt680.2 true)))) = some r := H
    have A8 := Aside0.mk A80
    clear A80
    replace H := Option.bind_eq_some_iff.mp H
    obtain ⟨⟨t680, t681⟩, A90, H⟩ := H
    replace H : ((laws_eqNodeS.f k t680 t673).bind fun t684 => (if t684 = true then (laws_FnExactFoldTerm.j0 k a0 a1 l2 t673 t674 t677 t680 t681 (t681 != t674)) else (laws_FnExactFoldTerm.j0 k a0 a1 l2 t673 t674 t677 t680 t681 true))) = some r := H
    have A9 := Aside0.mk A90
    clear A90
    have HC10 := Aside0.mk H
    clear H
    go_enter Try.func5, Try.ntmps5
    go_upto_region 8 with (first | ((with_reducible refine gate_callee (f := 7) rfl ?_); refine goesL_ (some 20) rfl rfl Try.func7 (by kernel_rfl) rfl #[.slice A2 l2.length c2, .int .i64 1048576] rfl qG ?_; (with_reducible refine (laws_szNodeS.calls _ _ l2 1048576 t669 _ ?side1 ?side2 A4.out).mono ?_); (case side1 => exact qC HR2.out); (case side2 => exact HC2.out); rintro e w' ⟨rfl, ⟨nd, rfl⟩⟩; refine ⟨_, rfl, ?_⟩) | ((with_reducible refine gate_callee (f := 10) rfl ?_); refine goesL_ (some 27) rfl rfl Try.func10 (by kernel_rfl) rfl #[.slice A2 l2.length c2] rfl qG ?_; (with_reducible refine (laws_toNodeS.calls k _ _ l2 t670 _ ?side1 ?side2 A6.out).mono ?_); (case side1 => exact qC HR2.out); (case side2 => exact HC2.out); rintro e w11 ⟨v671, rfl, ho0, hb⟩; refine ⟨_, rfl, ?_⟩; have n0_ := Aside0.mk (Kd.R_lower ho0 (below_size (qB))); have n1_ := Aside0.mk (below_step (qB) hb); clear HB; have HO672 := n0_; have HB := n1_; clear n0_ n1_; (try clear hb); (try clear hb2); (try clear hk); (try clear hi); (try clear ho0); obtain ⟨Ao12, co12, eo12⟩ := Kd.R_slice HO672.out; subst eo12) | ((with_reducible refine gate_callee (f := 22) rfl ?_); refine goesL_ (some 28) rfl rfl Try.func22 (by kernel_rfl) rfl #[.int .i64 a0, .int .i64 a1, .slice Ao12 t670.length co12] rfl qG ?_; (with_reducible refine (spec_FoldTerm.calls k a0 a1 _ _ t670 t673 t674 _ ?side1 ?side2 A7.out).mono ?_); (case side1 => repeat (first | exact (Kd.R_reads' HO672.out).2.2 | (with_reducible refine Kd.C_alloc ?_ _) | (with_reducible refine Kd.C_drewN ?_ _) | (with_reducible refine Kd.C_drew ?_))); (case side2 => exact (Kd.R_reads' HO672.out).2.1); rintro e w13 ⟨v675, rfl, ho0, hb⟩; refine ⟨_, rfl, ?_⟩; have n0_ := Aside0.mk (Kd.R_elder' (qR HO672.out) (Kd.R_base ho0) hb); have n1_ := Aside0.mk (Kd.R_lower (Kd.R_new' ho0 (Kd.R_lt (qR HO672.out))) (below_size (qB))); have n2_ := Aside0.mk (below_step (qB) hb); clear HO672; clear HB; have HO672 := n0_; have HO676 := n1_; have HB := n2_; clear n0_ n1_ n2_; (try clear hb); (try clear hb2); (try clear hk); (try clear hi); (try clear ho0)) | ((with_reducible refine gate_callee (f := 10) rfl ?_); refine goesL_ (some 32) rfl rfl Try.func10 (by kernel_rfl) rfl #[.slice A2 l2.length c2] rfl qG ?_; (with_reducible refine (laws_toNodeS.calls k _ _ l2 t677 _ ?side1 ?side2 A8.out).mono ?_); (case side1 => exact qC (Kd.C_below HR2.out HB.out)); (case side2 => exact HC2.out); rintro e w14 ⟨v678, rfl, ho0, hb⟩; refine ⟨_, rfl, ?_⟩; have n0_ := Aside0.mk (Kd.R_elder' (qR HO672.out) (Kd.R_base ho0) hb); have n1_ := Aside0.mk (Kd.R_elder' (qR HO676.out) (Kd.R_base ho0) hb); have n2_ := Aside0.mk (Kd.R_lower (Kd.R_new' (Kd.R_new' ho0 (Kd.R_lt (qR HO672.out))) (Kd.R_lt (qR HO676.out))) (below_size (qB))); have n3_ := Aside0.mk (below_step (qB) hb); clear HO672; clear HO676; clear HB; have HO672 := n0_; have HO676 := n1_; have HO679 := n2_; have HB := n3_; clear n0_ n1_ n2_ n3_; (try clear hb); (try clear hb2); (try clear hk); (try clear hi); (try clear ho0); obtain ⟨Ao15, co15, eo15⟩ := Kd.R_slice HO679.out; subst eo15) | ((with_reducible refine gate_callee (f := 23) rfl ?_); refine goesL_ (some 37) rfl rfl Try.func23 (by kernel_rfl) rfl #[.int .i64 a0, .int .i64 a1, .slice Ao15 t677.length co15] rfl qG ?_; (with_reducible refine (impl_FoldTerm.calls k a0 a1 _ _ t677 t680 t681 _ ?side1 ?side2 A9.out).mono ?_); (case side1 => repeat (first | exact (Kd.R_reads' HO679.out).2.2 | (with_reducible refine Kd.C_alloc ?_ _) | (with_reducible refine Kd.C_drewN ?_ _) | (with_reducible refine Kd.C_drew ?_))); (case side2 => exact (Kd.R_reads' HO679.out).2.1); rintro e w16 ⟨v682, rfl, ho0, hb⟩; refine ⟨_, rfl, ?_⟩; have n0_ := Aside0.mk (Kd.R_elder' (qR HO672.out) (Kd.R_base ho0) hb); have n1_ := Aside0.mk (Kd.R_elder' (qR HO676.out) (Kd.R_base ho0) hb); have n2_ := Aside0.mk (Kd.R_elder' (qR HO679.out) (Kd.R_base ho0) hb); have n3_ := Aside0.mk (Kd.R_lower (Kd.R_new' (Kd.R_new' (Kd.R_new' ho0 (Kd.R_lt (qR HO672.out))) (Kd.R_lt (qR HO676.out))) (Kd.R_lt (qR HO679.out))) (below_size (qB))); have n4_ := Aside0.mk (below_step (qB) hb); clear HO672; clear HO676; clear HO679; clear HB; have HO672 := n0_; have HO676 := n1_; have HO679 := n2_; have HO683 := n3_; have HB := n4_; clear n0_ n1_ n2_ n3_ n4_; (try clear hb); (try clear hb2); (try clear hk); (try clear hi); (try clear ho0)))
    (try simp only [Act.put, List.setIfInBounds_toArray, List.set_cons_zero, List.set_cons_succ])
    go_cut [48] (fun v48 wc => ∃ (kq : Nat) (x48_9 : Bool), v48 = .bool x48_9 ∧ Aside0 (laws_FnExactFoldTerm.j0 kq a0 a1 l2 t673 t674 t677 t680 t681 x48_9 = some r) ∧ Aside0 (kq ≤ k) ∧ Aside0 (Kd.R k52 52 wc w.heap.size (fun k_ => some k_ ≠ ((.slice Ao15 t677.length co15) : Value).ownBlock ∧ some k_ ≠ (v682 : Value).ownBlock) v675 t673) ∧ Aside0 (Kd.R k52 52 wc w.heap.size (fun k_ => some k_ ≠ (v675 : Value).ownBlock ∧ some k_ ≠ (v682 : Value).ownBlock) (.slice Ao15 t677.length co15) t677) ∧ Aside0 (Kd.R k52 52 wc w.heap.size (fun k_ => some k_ ≠ (v675 : Value).ownBlock ∧ some k_ ≠ ((.slice Ao15 t677.length co15) : Value).ownBlock) v682 t680) ∧ Aside0 (Below w.heap.size w wc))
    case first =>
      have H := HC10.out
      clear HC10
      replace H := Option.bind_eq_some_iff.mp H
      obtain ⟨t684, A170, H⟩ := H
      replace H : (if t684 = true then (laws_FnExactFoldTerm.j0 k a0 a1 l2 t673 t674 t677 t680 t681 (t681 != t674)) else (laws_FnExactFoldTerm.j0 k a0 a1 l2 t673 t674 t677 t680 t681 true)) = some r := H
      have A17 := Aside0.mk A170
      clear A170
      by_cases c18 : t684 = true
      · subst c18
        have H1 : (laws_FnExactFoldTerm.j0 k a0 a1 l2 t673 t674 t677 t680 t681 (t681 != t674)) = some r := by rw [if_pos rfl] at H; exact H
        clear H
        have H := H1
        clear H1
        have H' := Aside0.mk H
        clear H
        obtain ⟨Ao19, co19, eo19⟩ := Kd.R_slice HO683.out
        subst eo19
        obtain ⟨Ao20, co20, eo20⟩ := Kd.R_slice HO676.out
        subst eo20
        go_wp2_with (first | ((with_reducible refine gate_callee (f := 13) rfl ?_); refine goesL_ (some 42) rfl rfl Try.func13 (by kernel_rfl) rfl #[.slice Ao19 t680.length co19, .slice Ao20 t673.length co20] rfl qG ?_; (with_reducible refine (laws_eqNodeS.calls k _ _ t680 _ _ t673 true _ ?side1 ?side2 ?side3 ?side4 A17.out).mono ?_); (case side1 => repeat (first | exact (Kd.R_reads' HO683.out).2.2 | (with_reducible refine Kd.C_alloc ?_ _) | (with_reducible refine Kd.C_drewN ?_ _) | (with_reducible refine Kd.C_drew ?_))); (case side2 => exact (Kd.R_reads' HO683.out).2.1); (case side3 => repeat (first | exact (Kd.R_reads' HO676.out).2.2 | (with_reducible refine Kd.C_alloc ?_ _) | (with_reducible refine Kd.C_drewN ?_ _) | (with_reducible refine Kd.C_drew ?_))); (case side4 => exact (Kd.R_reads' HO676.out).2.1); rintro e w21 ⟨rfl, hb⟩; refine ⟨_, rfl, ?_⟩; have n0_ := Aside0.mk (Kd.R_below (qR HO672.out) hb); have n1_ := Aside0.mk (Kd.R_below (qR HO676.out) hb); have n2_ := Aside0.mk (Kd.R_below (qR HO679.out) hb); have n3_ := Aside0.mk (Kd.R_below (qR HO683.out) hb); have n4_ := Aside0.mk (below_step (qB) hb); clear HO672; clear HO676; clear HO679; clear HO683; clear HB; have HO672 := n0_; have HO676 := n1_; have HO679 := n2_; have HO683 := n3_; have HB := n4_; clear n0_ n1_ n2_ n3_ n4_; (try clear hb); (try clear hb2); (try clear hk); (try clear hi)))
        go_meet
        case rel => exact ⟨_, ((t681 != t674)), qS, H', ⟨by first | omega | exact Nat.le_refl _⟩, ⟨by (with_reducible repeat (first | apply Kd.R_alloc | apply Kd.R_drewN | apply Kd.R_drew)); exact Kd.R_mono HO676.out (fun _ hk => ⟨hk.1.2, hk.2⟩)⟩, ⟨by (with_reducible repeat (first | apply Kd.R_alloc | apply Kd.R_drewN | apply Kd.R_drew)); exact Kd.R_mono HO679.out (fun _ hk => ⟨hk.1.2, hk.2⟩)⟩, ⟨by (with_reducible repeat (first | apply Kd.R_alloc | apply Kd.R_drewN | apply Kd.R_drew)); exact Kd.R_mono HO683.out (fun _ hk => ⟨hk.1.2, hk.2⟩)⟩, ⟨qB⟩⟩
      · replace c18 := Bool.eq_false_iff.mpr c18
        subst c18
        have H1 : (laws_FnExactFoldTerm.j0 k a0 a1 l2 t673 t674 t677 t680 t681 true) = some r := by rw [if_neg (show ¬ (false = true) by decide)] at H; exact H
        clear H
        have H := H1
        clear H1
        have H' := Aside0.mk H
        clear H
        obtain ⟨Ao22, co22, eo22⟩ := Kd.R_slice HO683.out
        subst eo22
        obtain ⟨Ao23, co23, eo23⟩ := Kd.R_slice HO676.out
        subst eo23
        go_wp2_with (first | ((with_reducible refine gate_callee (f := 13) rfl ?_); refine goesL_ (some 42) rfl rfl Try.func13 (by kernel_rfl) rfl #[.slice Ao22 t680.length co22, .slice Ao23 t673.length co23] rfl qG ?_; (with_reducible refine (laws_eqNodeS.calls k _ _ t680 _ _ t673 false _ ?side1 ?side2 ?side3 ?side4 A17.out).mono ?_); (case side1 => repeat (first | exact (Kd.R_reads' HO683.out).2.2 | (with_reducible refine Kd.C_alloc ?_ _) | (with_reducible refine Kd.C_drewN ?_ _) | (with_reducible refine Kd.C_drew ?_))); (case side2 => exact (Kd.R_reads' HO683.out).2.1); (case side3 => repeat (first | exact (Kd.R_reads' HO676.out).2.2 | (with_reducible refine Kd.C_alloc ?_ _) | (with_reducible refine Kd.C_drewN ?_ _) | (with_reducible refine Kd.C_drew ?_))); (case side4 => exact (Kd.R_reads' HO676.out).2.1); rintro e w24 ⟨rfl, hb⟩; refine ⟨_, rfl, ?_⟩; have n0_ := Aside0.mk (Kd.R_below (qR HO672.out) hb); have n1_ := Aside0.mk (Kd.R_below (qR HO676.out) hb); have n2_ := Aside0.mk (Kd.R_below (qR HO679.out) hb); have n3_ := Aside0.mk (Kd.R_below (qR HO683.out) hb); have n4_ := Aside0.mk (below_step (qB) hb); clear HO672; clear HO676; clear HO679; clear HO683; clear HB; have HO672 := n0_; have HO676 := n1_; have HO679 := n2_; have HO683 := n3_; have HB := n4_; clear n0_ n1_ n2_ n3_ n4_; (try clear hb); (try clear hb2); (try clear hk); (try clear hi)))
        go_meet
        case rel => exact ⟨_, (true), qS, H', ⟨by first | omega | exact Nat.le_refl _⟩, ⟨by (with_reducible repeat (first | apply Kd.R_alloc | apply Kd.R_drewN | apply Kd.R_drew)); exact Kd.R_mono HO676.out (fun _ hk => ⟨hk.1.2, hk.2⟩)⟩, ⟨by (with_reducible repeat (first | apply Kd.R_alloc | apply Kd.R_drewN | apply Kd.R_drew)); exact Kd.R_mono HO679.out (fun _ hk => ⟨hk.1.2, hk.2⟩)⟩, ⟨by (with_reducible repeat (first | apply Kd.R_alloc | apply Kd.R_drewN | apply Kd.R_drew)); exact Kd.R_mono HO683.out (fun _ hk => ⟨hk.1.2, hk.2⟩)⟩, ⟨qB⟩⟩
    case rest =>
      clear HC10
      try clear c1
      try clear c2
      try clear p2
      try clear c5
      try clear c5b0
      try clear c7
      try clear c10
      try clear c13
      try clear c18
      try clear c22
      try clear c23
      obtain ⟨kq, x48_9, rfl, HA, HJ9, HO_8, HO_10, HO_11, HB⟩ := hcut
      cases kq with
      | zero => exact absurd HA.out (by simp [laws_FnExactFoldTerm.j0])
      | succ kj9 =>
        have H := HA.out
        clear HA
        simp only [laws_FnExactFoldTerm.j0] at H
        by_cases c25 : x48_9 = true
        · subst c25
          have H1 : (some false) = some r := by rw [if_pos rfl] at H; exact H
          clear H
          have H := H1
          clear H1
          obtain rfl := Option.some.inj H
          go_wp2
          go_ret
          exact ⟨qE, qB⟩
        · replace c25 := Bool.eq_false_iff.mpr c25
          subst c25
          have H1 : ((laws_toNodeS.f kj9 l2).bind fun t685 => ((laws_eqNodeS.f kj9 t677 t685).bind fun t688 => (if t688 = true then ((laws_markNodeS.f kj9 t677 1).bind fun bt689 => (if bt689.1 < 0 then (laws_FnExactFoldTerm.j1 kj9 a0 a1 l2 t673 t674 t680 true) else ((laws_eqNodeS.f kj9 t680 t673).bind fun t691 => (if t691 = true then (laws_FnExactFoldTerm.j1 kj9 a0 a1 l2 t673 t674 t680 (t681 != t674)) else (laws_FnExactFoldTerm.j1 kj9 a0 a1 l2 t673 t674 t680 true))))) else (some false)))) = some r := by rw [if_neg (show ¬ (false = true) by decide)] at H; exact H
          clear H
          have H := H1
          clear H1
          replace H := Option.bind_eq_some_iff.mp H
          obtain ⟨t685, A260, H⟩ := H
          replace H : ((laws_eqNodeS.f kj9 t677 t685).bind fun t688 => (if t688 = true then ((laws_markNodeS.f kj9 t677 1).bind fun bt689 => (if bt689.1 < 0 then (laws_FnExactFoldTerm.j1 kj9 a0 a1 l2 t673 t674 t680 true) else ((laws_eqNodeS.f kj9 t680 t673).bind fun t691 => (if t691 = true then (laws_FnExactFoldTerm.j1 kj9 a0 a1 l2 t673 t674 t680 (t681 != t674)) else (laws_FnExactFoldTerm.j1 kj9 a0 a1 l2 t673 t674 t680 true))))) else (some false))) = some r := H
          have A26 := Aside0.mk A260
          clear A260
          replace H := Option.bind_eq_some_iff.mp H
          obtain ⟨t688, A270, H⟩ := H
          replace H : (if t688 = true then ((laws_markNodeS.f kj9 t677 1).bind fun bt689 => (if bt689.1 < 0 then (laws_FnExactFoldTerm.j1 kj9 a0 a1 l2 t673 t674 t680 true) else ((laws_eqNodeS.f kj9 t680 t673).bind fun t691 => (if t691 = true then (laws_FnExactFoldTerm.j1 kj9 a0 a1 l2 t673 t674 t680 (t681 != t674)) else (laws_FnExactFoldTerm.j1 kj9 a0 a1 l2 t673 t674 t680 true))))) else (some false)) = some r := H
          have A27 := Aside0.mk A270
          clear A270
          by_cases c28 : t688 = true
          · subst c28
            have H1 : ((laws_markNodeS.f kj9 t677 1).bind fun bt689 => (if bt689.1 < 0 then (laws_FnExactFoldTerm.j1 kj9 a0 a1 l2 t673 t674 t680 true) else ((laws_eqNodeS.f kj9 t680 t673).bind fun t691 => (if t691 = true then (laws_FnExactFoldTerm.j1 kj9 a0 a1 l2 t673 t674 t680 (t681 != t674)) else (laws_FnExactFoldTerm.j1 kj9 a0 a1 l2 t673 t674 t680 true))))) = some r := by rw [if_pos rfl] at H; exact H
            clear H
            have H := H1
            clear H1
            replace H := Option.bind_eq_some_iff.mp H
            obtain ⟨⟨t689, t690⟩, A290, H⟩ := H
            replace H : (if t689 < 0 then (laws_FnExactFoldTerm.j1 kj9 a0 a1 l2 t673 t674 t680 true) else ((laws_eqNodeS.f kj9 t680 t673).bind fun t691 => (if t691 = true then (laws_FnExactFoldTerm.j1 kj9 a0 a1 l2 t673 t674 t680 (t681 != t674)) else (laws_FnExactFoldTerm.j1 kj9 a0 a1 l2 t673 t674 t680 true)))) = some r := H
            have A29 := Aside0.mk A290
            clear A290
            have HC30 := Aside0.mk H
            clear H
            go_upto_region 14 with (first | ((with_reducible refine gate_callee (f := 10) rfl ?_); refine goesL_ (some 51) rfl rfl Try.func10 (by kernel_rfl) rfl #[.slice A2 l2.length c2] rfl qG ?_; (with_reducible refine (laws_toNodeS.calls kj9 _ _ l2 t685 _ ?side1 ?side2 A26.out).mono ?_); (case side1 => exact qC (Kd.C_below HR2.out HB.out)); (case side2 => exact HC2.out); rintro e w31 ⟨v686, rfl, ho0, hb⟩; refine ⟨_, rfl, ?_⟩; have n0_ := Aside0.mk (Kd.R_elder' (qR HO_8.out) (Kd.R_base ho0) hb); have n1_ := Aside0.mk (Kd.R_elder' (qR HO_10.out) (Kd.R_base ho0) hb); have n2_ := Aside0.mk (Kd.R_elder' (qR HO_11.out) (Kd.R_base ho0) hb); have n3_ := Aside0.mk (Kd.R_lower (Kd.R_new' (Kd.R_new' (Kd.R_new' ho0 (Kd.R_lt (qR HO_8.out))) (Kd.R_lt (qR HO_10.out))) (Kd.R_lt (qR HO_11.out))) (below_size (qB))); have n4_ := Aside0.mk (below_step (qB) hb); clear HO_8; clear HO_10; clear HO_11; clear HB; have HO_8 := n0_; have HO_10 := n1_; have HO_11 := n2_; have HO687 := n3_; have HB := n4_; clear n0_ n1_ n2_ n3_ n4_; (try clear hb); (try clear hb2); (try clear hk); (try clear hi); (try clear ho0); obtain ⟨Ao32, co32, eo32⟩ := Kd.R_slice HO687.out; subst eo32) | ((with_reducible refine gate_callee (f := 13) rfl ?_); refine goesL_ (some 52) rfl rfl Try.func13 (by kernel_rfl) rfl #[.slice Ao15 t677.length co15, .slice Ao32 t685.length co32] rfl qG ?_; (with_reducible refine (laws_eqNodeS.calls kj9 _ _ t677 _ _ t685 true _ ?side1 ?side2 ?side3 ?side4 A27.out).mono ?_); (case side1 => repeat (first | exact (Kd.R_reads' HO_10.out).2.2 | (with_reducible refine Kd.C_alloc ?_ _) | (with_reducible refine Kd.C_drewN ?_ _) | (with_reducible refine Kd.C_drew ?_))); (case side2 => exact (Kd.R_reads' HO_10.out).2.1); (case side3 => repeat (first | exact (Kd.R_reads' HO687.out).2.2 | (with_reducible refine Kd.C_alloc ?_ _) | (with_reducible refine Kd.C_drewN ?_ _) | (with_reducible refine Kd.C_drew ?_))); (case side4 => exact (Kd.R_reads' HO687.out).2.1); rintro e w33 ⟨rfl, hb⟩; refine ⟨_, rfl, ?_⟩; have n0_ := Aside0.mk (Kd.R_below (qR HO_8.out) hb); have n1_ := Aside0.mk (Kd.R_below (qR HO_10.out) hb); have n2_ := Aside0.mk (Kd.R_below (qR HO_11.out) hb); have n3_ := Aside0.mk (Kd.R_below (qR HO687.out) hb); have n4_ := Aside0.mk (below_step (qB) hb); clear HO_8; clear HO_10; clear HO_11; clear HO687; clear HB; have HO_8 := n0_; have HO_10 := n1_; have HO_11 := n2_; have HO687 := n3_; have HB := n4_; clear n0_ n1_ n2_ n3_ n4_; (try clear hb); (try clear hb2); (try clear hk); (try clear hi)) | ((with_reducible refine gate_callee (f := 15) rfl ?_); refine goesL_ (some 56) rfl rfl Try.func15 (by kernel_rfl) rfl #[.slice Ao15 t677.length co15, .int .i64 1] rfl qG ?_; (with_reducible refine (laws_markNodeS.calls kj9 (fun k_ => some k_ = (.slice Ao15 t677.length co15 : Value).ownBlock) (.slice Ao15 t677.length co15) t677 1 t689 t690 w _ ?side1 ?side2 A29.out).mono ?_); (case side1 => repeat (first | (with_reducible first | exact HB.out | apply below_alloc | apply pw_below_drewN | apply below_drew1) | exact HB.out)); (case side2 => exact Kd.R_tight rfl HO_10.out); rintro e w34 ⟨rfl, hy0, hb, hkp⟩; refine ⟨_, rfl, ?_⟩; have n0_ := Aside0.mk (Kd.R_mono (ok' := fun k_ => some k_ ≠ (.slice Ao15 t677.length co15 : Value).ownBlock ∧ some k_ ≠ (v682 : Value).ownBlock ∧ some k_ ≠ (.slice Ao32 t685.length co32 : Value).ownBlock) (Kd.R_keptB (HO_8.out) hkp (fun k_ hk_ hs_ => (hk_.1.1) hs_)) (fun k_ hk_ => ⟨hk_.1.1.1, hk_.1.1.2, hk_.1.2⟩)); have n1_ := Aside0.mk (Kd.R_reok rfl hy0 (fun k_ e_ => HO_10.out.1 k_ e_)); have n2_ := Aside0.mk (Kd.R_mono (ok' := fun k_ => some k_ ≠ (v675 : Value).ownBlock ∧ some k_ ≠ (.slice Ao15 t677.length co15 : Value).ownBlock ∧ some k_ ≠ (.slice Ao32 t685.length co32 : Value).ownBlock) (Kd.R_keptB (HO_11.out) hkp (fun k_ hk_ hs_ => (hk_.1.2) hs_)) (fun k_ hk_ => ⟨hk_.1.1.1, hk_.1.1.2, hk_.1.2⟩)); have n3_ := Aside0.mk (Kd.R_mono (ok' := fun k_ => some k_ ≠ (v675 : Value).ownBlock ∧ some k_ ≠ (.slice Ao15 t677.length co15 : Value).ownBlock ∧ some k_ ≠ (v682 : Value).ownBlock) (Kd.R_keptB (HO687.out) hkp (fun k_ hk_ hs_ => (hk_.1.2) hs_)) (fun k_ hk_ => ⟨hk_.1.1.1.2, hk_.1.1.2, hk_.1.2⟩)); have n4_ := Aside0.mk (hb); clear HO_8; clear HO_10; clear HO_11; clear HO687; clear HB; have HO_8 := n0_; have HO_10 := n1_; have HO_11 := n2_; have HO687 := n3_; have HB := n4_; clear n0_ n1_ n2_ n3_ n4_; (try clear hb); (try clear hkp); (try clear hy0)))
            (try simp only [Act.put, List.setIfInBounds_toArray, List.set_cons_zero, List.set_cons_succ])
            go_cut [69] (fun v69 wc => ∃ (kq : Nat) (x69_29 : Bool), v69 = .bool x69_29 ∧ Aside0 (laws_FnExactFoldTerm.j1 kq a0 a1 l2 t673 t674 t680 x69_29 = some r) ∧ Aside0 (kq ≤ kj9) ∧ Aside0 (Kd.R k52 52 wc w.heap.size (fun k_ => some k_ ≠ (v682 : Value).ownBlock) v675 t673) ∧ Aside0 (Kd.R k52 52 wc w.heap.size (fun k_ => some k_ ≠ (v675 : Value).ownBlock) v682 t680) ∧ Aside0 (Below w.heap.size w wc))
            case first =>
              have H := HC30.out
              clear HC30
              by_cases c35 : t689 < 0
              · rw [if_pos c35] at H
                have c35b0 : decide (t689 < 0) = true := decide_eq_true c35
                clear c35
                (first | rw [c35b0] | (simp only [i64_w, i32_w]; rw [c35b0]) | skip)
                have H' := Aside0.mk H
                clear H
                go_wp2
                go_meet
                case rel => exact ⟨_, (true), qS, H', ⟨by have := HJ9.out; first | omega | exact Nat.le_refl _⟩, ⟨by (with_reducible repeat (first | apply Kd.R_alloc | apply Kd.R_drewN | apply Kd.R_drew)); exact Kd.R_mono HO_8.out (fun _ hk => hk.2.1)⟩, ⟨by (with_reducible repeat (first | apply Kd.R_alloc | apply Kd.R_drewN | apply Kd.R_drew)); exact Kd.R_mono HO_11.out (fun _ hk => hk.1)⟩, ⟨qB⟩⟩
              · rw [if_neg c35] at H
                have c35b0 : decide (t689 < 0) = false := decide_eq_false c35
                clear c35
                (first | rw [c35b0] | (simp only [i64_w, i32_w]; rw [c35b0]) | skip)
                replace H := Option.bind_eq_some_iff.mp H
                obtain ⟨t691, A360, H⟩ := H
                replace H : (if t691 = true then (laws_FnExactFoldTerm.j1 kj9 a0 a1 l2 t673 t674 t680 (t681 != t674)) else (laws_FnExactFoldTerm.j1 kj9 a0 a1 l2 t673 t674 t680 true)) = some r := H
                have A36 := Aside0.mk A360
                clear A360
                by_cases c37 : t691 = true
                · subst c37
                  have H1 : (laws_FnExactFoldTerm.j1 kj9 a0 a1 l2 t673 t674 t680 (t681 != t674)) = some r := by rw [if_pos rfl] at H; exact H
                  clear H
                  have H := H1
                  clear H1
                  have H' := Aside0.mk H
                  clear H
                  obtain ⟨Ao38, co38, eo38⟩ := Kd.R_slice HO_11.out
                  subst eo38
                  obtain ⟨Ao39, co39, eo39⟩ := Kd.R_slice HO_8.out
                  subst eo39
                  go_wp2_with (first | (go_at_call 13; (with_reducible refine (laws_eqNodeS.calls kj9 _ _ t680 _ _ t673 true _ ?side1 ?side2 ?side3 ?side4 A36.out).mono ?_); (case side1 => repeat (first | exact (Kd.R_reads' HO_11.out).2.2 | (with_reducible refine Kd.C_alloc ?_ _) | (with_reducible refine Kd.C_drewN ?_ _) | (with_reducible refine Kd.C_drew ?_))); (case side2 => exact (Kd.R_reads' HO_11.out).2.1); (case side3 => repeat (first | exact (Kd.R_reads' HO_8.out).2.2 | (with_reducible refine Kd.C_alloc ?_ _) | (with_reducible refine Kd.C_drewN ?_ _) | (with_reducible refine Kd.C_drew ?_))); (case side4 => exact (Kd.R_reads' HO_8.out).2.1); rintro e w40 ⟨rfl, hb⟩; have n0_ := Aside0.mk (Kd.R_below (qR HO_8.out) hb); have n1_ := Aside0.mk (Kd.R_below (qR HO_10.out) hb); have n2_ := Aside0.mk (Kd.R_below (qR HO_11.out) hb); have n3_ := Aside0.mk (Kd.R_below (qR HO687.out) hb); have n4_ := Aside0.mk (below_step (qB) hb); clear HO_8; clear HO_10; clear HO_11; clear HO687; clear HB; have HO_8 := n0_; have HO_10 := n1_; have HO_11 := n2_; have HO687 := n3_; have HB := n4_; clear n0_ n1_ n2_ n3_ n4_; (try clear hb); (try clear hb2); (try clear hk); (try clear hi)))
                  go_meet
                  case rel => exact ⟨_, ((t681 != t674)), qS, H', ⟨by have := HJ9.out; first | omega | exact Nat.le_refl _⟩, ⟨by (with_reducible repeat (first | apply Kd.R_alloc | apply Kd.R_drewN | apply Kd.R_drew)); exact Kd.R_mono HO_8.out (fun _ hk => hk.2.1)⟩, ⟨by (with_reducible repeat (first | apply Kd.R_alloc | apply Kd.R_drewN | apply Kd.R_drew)); exact Kd.R_mono HO_11.out (fun _ hk => hk.1)⟩, ⟨qB⟩⟩
                · replace c37 := Bool.eq_false_iff.mpr c37
                  subst c37
                  have H1 : (laws_FnExactFoldTerm.j1 kj9 a0 a1 l2 t673 t674 t680 true) = some r := by rw [if_neg (show ¬ (false = true) by decide)] at H; exact H
                  clear H
                  have H := H1
                  clear H1
                  have H' := Aside0.mk H
                  clear H
                  obtain ⟨Ao41, co41, eo41⟩ := Kd.R_slice HO_11.out
                  subst eo41
                  obtain ⟨Ao42, co42, eo42⟩ := Kd.R_slice HO_8.out
                  subst eo42
                  go_wp2_with (first | (go_at_call 13; (with_reducible refine (laws_eqNodeS.calls kj9 _ _ t680 _ _ t673 false _ ?side1 ?side2 ?side3 ?side4 A36.out).mono ?_); (case side1 => repeat (first | exact (Kd.R_reads' HO_11.out).2.2 | (with_reducible refine Kd.C_alloc ?_ _) | (with_reducible refine Kd.C_drewN ?_ _) | (with_reducible refine Kd.C_drew ?_))); (case side2 => exact (Kd.R_reads' HO_11.out).2.1); (case side3 => repeat (first | exact (Kd.R_reads' HO_8.out).2.2 | (with_reducible refine Kd.C_alloc ?_ _) | (with_reducible refine Kd.C_drewN ?_ _) | (with_reducible refine Kd.C_drew ?_))); (case side4 => exact (Kd.R_reads' HO_8.out).2.1); rintro e w43 ⟨rfl, hb⟩; have n0_ := Aside0.mk (Kd.R_below (qR HO_8.out) hb); have n1_ := Aside0.mk (Kd.R_below (qR HO_10.out) hb); have n2_ := Aside0.mk (Kd.R_below (qR HO_11.out) hb); have n3_ := Aside0.mk (Kd.R_below (qR HO687.out) hb); have n4_ := Aside0.mk (below_step (qB) hb); clear HO_8; clear HO_10; clear HO_11; clear HO687; clear HB; have HO_8 := n0_; have HO_10 := n1_; have HO_11 := n2_; have HO687 := n3_; have HB := n4_; clear n0_ n1_ n2_ n3_ n4_; (try clear hb); (try clear hb2); (try clear hk); (try clear hi)))
                  go_meet
                  case rel => exact ⟨_, (true), qS, H', ⟨by have := HJ9.out; first | omega | exact Nat.le_refl _⟩, ⟨by (with_reducible repeat (first | apply Kd.R_alloc | apply Kd.R_drewN | apply Kd.R_drew)); exact Kd.R_mono HO_8.out (fun _ hk => hk.2.1)⟩, ⟨by (with_reducible repeat (first | apply Kd.R_alloc | apply Kd.R_drewN | apply Kd.R_drew)); exact Kd.R_mono HO_11.out (fun _ hk => hk.1)⟩, ⟨qB⟩⟩
            case rest =>
              clear HC30
              try clear c1
              try clear c2
              try clear p2
              try clear c3
              try clear c5
              try clear c5b0
              try clear c7
              try clear c10
              try clear c13
              try clear c15
              try clear c18
              try clear c22
              try clear c23
              try clear c25
              try clear c28
              try clear c35
              try clear c35b0
              try clear c37
              try clear p2
              obtain ⟨kq, x69_29, rfl, HA, HJ29, HO_8, HO_11, HB⟩ := hcut
              cases kq with
              | zero => exact absurd HA.out (by simp [laws_FnExactFoldTerm.j1])
              | succ kj29 =>
                have H := HA.out
                clear HA
                simp only [laws_FnExactFoldTerm.j1] at H
                by_cases c44 : x69_29 = true
                · subst c44
                  have H1 : (some false) = some r := by rw [if_pos rfl] at H; exact H
                  clear H
                  have H := H1
                  clear H1
                  obtain rfl := Option.some.inj H
                  go_wp2
                  go_ret
                  exact ⟨qE, qB⟩
                · replace c44 := Bool.eq_false_iff.mpr c44
                  subst c44
                  have H1 : ((laws_markNodeS.f kj29 t680 1).bind fun bt692 => ((laws_heldNodeS.f kj29 bt692.2 1).bind fun t694 => (if t694 < 0 then (some false) else (if t694 = bt692.1 then ((laws_toNodeS.f kj29 l2).bind fun t695 => ((impl_FoldTerm.f kj29 a0 a1 t695).bind fun bt698 => ((laws_eqNodeS.f kj29 bt698.1 t673).bind fun t702 => (if t702 = true then (laws_FnExactFoldTerm.j2 kj29 bt692.2 bt692.1 (bt698.2 != t674)) else (laws_FnExactFoldTerm.j2 kj29 bt692.2 bt692.1 true))))) else (some false))))) = some r := by rw [if_neg (show ¬ (false = true) by decide)] at H; exact H
                  clear H
                  have H := H1
                  clear H1
                  replace H := Option.bind_eq_some_iff.mp H
                  obtain ⟨⟨t692, t693⟩, A450, H⟩ := H
                  replace H : ((laws_heldNodeS.f kj29 t693 1).bind fun t694 => (if t694 < 0 then (some false) else (if t694 = t692 then ((laws_toNodeS.f kj29 l2).bind fun t695 => ((impl_FoldTerm.f kj29 a0 a1 t695).bind fun bt698 => ((laws_eqNodeS.f kj29 bt698.1 t673).bind fun t702 => (if t702 = true then (laws_FnExactFoldTerm.j2 kj29 t693 t692 (bt698.2 != t674)) else (laws_FnExactFoldTerm.j2 kj29 t693 t692 true))))) else (some false)))) = some r := H
                  have A45 := Aside0.mk A450
                  clear A450
                  replace H := Option.bind_eq_some_iff.mp H
                  obtain ⟨t694, A460, H⟩ := H
                  replace H : (if t694 < 0 then (some false) else (if t694 = t692 then ((laws_toNodeS.f kj29 l2).bind fun t695 => ((impl_FoldTerm.f kj29 a0 a1 t695).bind fun bt698 => ((laws_eqNodeS.f kj29 bt698.1 t673).bind fun t702 => (if t702 = true then (laws_FnExactFoldTerm.j2 kj29 t693 t692 (bt698.2 != t674)) else (laws_FnExactFoldTerm.j2 kj29 t693 t692 true))))) else (some false))) = some r := H
                  have A46 := Aside0.mk A460
                  clear A460
                  by_cases c47 : t694 < 0
                  · rw [if_pos c47] at H
                    have c47b0 : decide (t694 < 0) = true := decide_eq_true c47
                    clear c47
                    obtain rfl := Option.some.inj H
                    obtain ⟨Ao48, co48, eo48⟩ := Kd.R_slice HO_11.out
                    subst eo48
                    go_wp2_with (first | ((with_reducible refine gate_callee (f := 15) rfl ?_); refine goesL_ (some 72) rfl rfl Try.func15 (by kernel_rfl) rfl #[.slice Ao48 t680.length co48, .int .i64 1] rfl qG ?_; (with_reducible refine (laws_markNodeS.calls kj29 (fun k_ => some k_ = (.slice Ao48 t680.length co48 : Value).ownBlock) (.slice Ao48 t680.length co48) t680 1 t692 t693 w _ ?side1 ?side2 A45.out).mono ?_); (case side1 => repeat (first | (with_reducible first | exact HB.out | apply below_alloc | apply pw_below_drewN | apply below_drew1) | exact HB.out)); (case side2 => exact Kd.R_tight rfl HO_11.out); rintro e w49 ⟨rfl, hy0, hb, hkp⟩; refine ⟨_, rfl, ?_⟩; have n0_ := Aside0.mk (Kd.R_mono (ok' := fun k_ => some k_ ≠ (.slice Ao48 t680.length co48 : Value).ownBlock) (Kd.R_keptB (HO_8.out) hkp (fun k_ hk_ hs_ => (hk_) hs_)) (fun k_ hk_ => hk_.1)); have n1_ := Aside0.mk (Kd.R_reok rfl hy0 (fun k_ e_ => HO_11.out.1 k_ e_)); have n2_ := Aside0.mk (hb); clear HO_8; clear HO_11; clear HB; have HO_8 := n0_; have HO_11 := n1_; have HB := n2_; clear n0_ n1_ n2_; (try clear hb); (try clear hkp); (try clear hy0)) | ((with_reducible refine gate_callee (f := 17) rfl ?_); refine goesL_ (some 75) rfl rfl Try.func17 (by kernel_rfl) rfl #[.slice Ao48 t693.length co48, .int .i64 1] rfl (by (try simp only [List.map_toArray, List.map_cons, List.map_nil]); first | done | (rw [show t693.length = t680.length from (Kd.R_reads' HO_11.out).1.symm] <;> rfl) | rfl | (simp only [List.length_drop, List.length_take]; rfl)) ?_; (with_reducible refine (laws_heldNodeS.calls kj29 _ _ t693 1 t694 _ ?side1 ?side2 A46.out).mono ?_); (case side1 => repeat (first | exact (Kd.R_reads' HO_11.out).2.2 | (with_reducible refine Kd.C_alloc ?_ _) | (with_reducible refine Kd.C_drewN ?_ _) | (with_reducible refine Kd.C_drew ?_))); (case side2 => rw [show t693.length = t680.length from (Kd.R_reads' HO_11.out).1.symm]; exact (Kd.R_reads' HO_11.out).2.1); rintro e w' ⟨rfl, ⟨nd, rfl⟩⟩; refine ⟨_, rfl, ?_⟩))
                    go_ret
                    exact ⟨qE, qB⟩
                  · rw [if_neg c47] at H
                    have c47b0 : decide (t694 < 0) = false := decide_eq_false c47
                    clear c47
                    by_cases c50 : t694 = t692
                    · rw [if_pos c50] at H
                      have c50b0 : (t694 == t692) = true := beq_iff_eq.mpr c50
                      have c50b1 : (t694 != t692) = false := bne_eq_false_iff_eq.mpr c50
                      clear c50
                      replace H := Option.bind_eq_some_iff.mp H
                      obtain ⟨t695, A510, H⟩ := H
                      replace H : ((impl_FoldTerm.f kj29 a0 a1 t695).bind fun bt698 => ((laws_eqNodeS.f kj29 bt698.1 t673).bind fun t702 => (if t702 = true then (laws_FnExactFoldTerm.j2 kj29 t693 t692 (bt698.2 != t674)) else (laws_FnExactFoldTerm.j2 kj29 t693 t692 true)))) = some r := H
                      have A51 := Aside0.mk A510
                      clear A510
                      replace H := Option.bind_eq_some_iff.mp H
                      obtain ⟨⟨t698, t699⟩, A520, H⟩ := H
                      replace H : ((laws_eqNodeS.f kj29 t698 t673).bind fun t702 => (if t702 = true then (laws_FnExactFoldTerm.j2 kj29 t693 t692 (t699 != t674)) else (laws_FnExactFoldTerm.j2 kj29 t693 t692 true))) = some r := H
                      have A52 := Aside0.mk A520
                      clear A520
                      have HC53 := Aside0.mk H
                      clear H
                      obtain ⟨Ao54, co54, eo54⟩ := Kd.R_slice HO_11.out
                      subst eo54
                      go_upto_region 25 with (first | ((with_reducible refine gate_callee (f := 15) rfl ?_); refine goesL_ (some 72) rfl rfl Try.func15 (by kernel_rfl) rfl #[.slice Ao54 t680.length co54, .int .i64 1] rfl qG ?_; (with_reducible refine (laws_markNodeS.calls kj29 (fun k_ => some k_ = (.slice Ao54 t680.length co54 : Value).ownBlock) (.slice Ao54 t680.length co54) t680 1 t692 t693 w _ ?side1 ?side2 A45.out).mono ?_); (case side1 => repeat (first | (with_reducible first | exact HB.out | apply below_alloc | apply pw_below_drewN | apply below_drew1) | exact HB.out)); (case side2 => exact Kd.R_tight rfl HO_11.out); rintro e w55 ⟨rfl, hy0, hb, hkp⟩; refine ⟨_, rfl, ?_⟩; have n0_ := Aside0.mk (Kd.R_mono (ok' := fun k_ => some k_ ≠ (.slice Ao54 t680.length co54 : Value).ownBlock) (Kd.R_keptB (HO_8.out) hkp (fun k_ hk_ hs_ => (hk_) hs_)) (fun k_ hk_ => hk_.1)); have n1_ := Aside0.mk (Kd.R_reok rfl hy0 (fun k_ e_ => HO_11.out.1 k_ e_)); have n2_ := Aside0.mk (hb); clear HO_8; clear HO_11; clear HB; have HO_8 := n0_; have HO_11 := n1_; have HB := n2_; clear n0_ n1_ n2_; (try clear hb); (try clear hkp); (try clear hy0)) | ((with_reducible refine gate_callee (f := 17) rfl ?_); refine goesL_ (some 75) rfl rfl Try.func17 (by kernel_rfl) rfl #[.slice Ao54 t693.length co54, .int .i64 1] rfl (by (try simp only [List.map_toArray, List.map_cons, List.map_nil]); first | done | (rw [show t693.length = t680.length from (Kd.R_reads' HO_11.out).1.symm] <;> rfl) | rfl | (simp only [List.length_drop, List.length_take]; rfl)) ?_; (with_reducible refine (laws_heldNodeS.calls kj29 _ _ t693 1 t694 _ ?side1 ?side2 A46.out).mono ?_); (case side1 => repeat (first | exact (Kd.R_reads' HO_11.out).2.2 | (with_reducible refine Kd.C_alloc ?_ _) | (with_reducible refine Kd.C_drewN ?_ _) | (with_reducible refine Kd.C_drew ?_))); (case side2 => rw [show t693.length = t680.length from (Kd.R_reads' HO_11.out).1.symm]; exact (Kd.R_reads' HO_11.out).2.1); rintro e w' ⟨rfl, ⟨nd, rfl⟩⟩; refine ⟨_, rfl, ?_⟩) | ((with_reducible refine gate_callee (f := 10) rfl ?_); refine goesL_ (some 85) rfl rfl Try.func10 (by kernel_rfl) rfl #[.slice A2 l2.length c2] rfl qG ?_; (with_reducible refine (laws_toNodeS.calls kj29 _ _ l2 t695 _ ?side1 ?side2 A51.out).mono ?_); (case side1 => repeat (first | exact (Kd.C_below HR2.out (qB)) | (with_reducible refine Kd.C_alloc ?_ _) | (with_reducible refine Kd.C_drewN ?_ _) | (with_reducible refine Kd.C_drew ?_))); (case side2 => exact HC2.out); rintro e w56 ⟨v696, rfl, ho0, hb⟩; refine ⟨_, rfl, ?_⟩; have n0_ := Aside0.mk (Kd.R_elder' (qR HO_8.out) (Kd.R_base ho0) hb); have n1_ := Aside0.mk (Kd.R_elder' (qR HO_11.out) (Kd.R_base ho0) hb); have n2_ := Aside0.mk (Kd.R_lower (Kd.R_new' (Kd.R_new' ho0 (Kd.R_lt (qR HO_8.out))) (Kd.R_lt (qR HO_11.out))) (below_size (qB))); have n3_ := Aside0.mk (below_step (qB) hb); clear HO_8; clear HO_11; clear HB; have HO_8 := n0_; have HO_11 := n1_; have HO697 := n2_; have HB := n3_; clear n0_ n1_ n2_ n3_; (try clear hb); (try clear hb2); (try clear hk); (try clear hi); (try clear ho0); obtain ⟨Ao57, co57, eo57⟩ := Kd.R_slice HO697.out; subst eo57) | ((with_reducible refine gate_callee (f := 23) rfl ?_); refine goesL_ (some 86) rfl rfl Try.func23 (by kernel_rfl) rfl #[.int .i64 a0, .int .i64 a1, .slice Ao57 t695.length co57] rfl qG ?_; (with_reducible refine (impl_FoldTerm.calls kj29 a0 a1 _ _ t695 t698 t699 _ ?side1 ?side2 A52.out).mono ?_); (case side1 => repeat (first | exact (Kd.R_reads' HO697.out).2.2 | (with_reducible refine Kd.C_alloc ?_ _) | (with_reducible refine Kd.C_drewN ?_ _) | (with_reducible refine Kd.C_drew ?_))); (case side2 => exact (Kd.R_reads' HO697.out).2.1); rintro e w58 ⟨v700, rfl, ho0, hb⟩; refine ⟨_, rfl, ?_⟩; have n0_ := Aside0.mk (Kd.R_elder' (qR HO_8.out) (Kd.R_base ho0) hb); have n1_ := Aside0.mk (Kd.R_elder' (qR HO_11.out) (Kd.R_base ho0) hb); have n2_ := Aside0.mk (Kd.R_elder' (qR HO697.out) (Kd.R_base ho0) hb); have n3_ := Aside0.mk (Kd.R_lower (Kd.R_new' (Kd.R_new' (Kd.R_new' ho0 (Kd.R_lt (qR HO_8.out))) (Kd.R_lt (qR HO_11.out))) (Kd.R_lt (qR HO697.out))) (below_size (qB))); have n4_ := Aside0.mk (below_step (qB) hb); clear HO_8; clear HO_11; clear HO697; clear HB; have HO_8 := n0_; have HO_11 := n1_; have HO697 := n2_; have HO701 := n3_; have HB := n4_; clear n0_ n1_ n2_ n3_ n4_; (try clear hb); (try clear hb2); (try clear hk); (try clear hi); (try clear ho0)))
                      (try simp only [Act.put, List.setIfInBounds_toArray, List.set_cons_zero, List.set_cons_succ])
                      go_cut [97] (fun v97 wc => ∃ (kq : Nat) (x97_52 : Bool), v97 = .bool x97_52 ∧ Aside0 (laws_FnExactFoldTerm.j2 kq t693 t692 x97_52 = some r) ∧ Aside0 (kq ≤ kj29) ∧ Aside0 (Kd.R k52 52 wc w.heap.size (fun _ => True) (.slice Ao54 t680.length co54) t693) ∧ Aside0 (Below w.heap.size w wc))
                      case first =>
                        have H := HC53.out
                        clear HC53
                        replace H := Option.bind_eq_some_iff.mp H
                        obtain ⟨t702, A590, H⟩ := H
                        replace H : (if t702 = true then (laws_FnExactFoldTerm.j2 kj29 t693 t692 (t699 != t674)) else (laws_FnExactFoldTerm.j2 kj29 t693 t692 true)) = some r := H
                        have A59 := Aside0.mk A590
                        clear A590
                        by_cases c60 : t702 = true
                        · subst c60
                          have H1 : (laws_FnExactFoldTerm.j2 kj29 t693 t692 (t699 != t674)) = some r := by rw [if_pos rfl] at H; exact H
                          clear H
                          have H := H1
                          clear H1
                          have H' := Aside0.mk H
                          clear H
                          obtain ⟨Ao61, co61, eo61⟩ := Kd.R_slice HO701.out
                          subst eo61
                          obtain ⟨Ao62, co62, eo62⟩ := Kd.R_slice HO_8.out
                          subst eo62
                          go_wp2_with (first | ((with_reducible refine gate_callee (f := 13) rfl ?_); refine goesL_ (some 91) rfl rfl Try.func13 (by kernel_rfl) rfl #[.slice Ao61 t698.length co61, .slice Ao62 t673.length co62] rfl qG ?_; (with_reducible refine (laws_eqNodeS.calls kj29 _ _ t698 _ _ t673 true _ ?side1 ?side2 ?side3 ?side4 A59.out).mono ?_); (case side1 => repeat (first | exact (Kd.R_reads' HO701.out).2.2 | (with_reducible refine Kd.C_alloc ?_ _) | (with_reducible refine Kd.C_drewN ?_ _) | (with_reducible refine Kd.C_drew ?_))); (case side2 => exact (Kd.R_reads' HO701.out).2.1); (case side3 => repeat (first | exact (Kd.R_reads' HO_8.out).2.2 | (with_reducible refine Kd.C_alloc ?_ _) | (with_reducible refine Kd.C_drewN ?_ _) | (with_reducible refine Kd.C_drew ?_))); (case side4 => exact (Kd.R_reads' HO_8.out).2.1); rintro e w63 ⟨rfl, hb⟩; refine ⟨_, rfl, ?_⟩; have n0_ := Aside0.mk (Kd.R_below (qR HO_8.out) hb); have n1_ := Aside0.mk (Kd.R_below (qR HO_11.out) hb); have n2_ := Aside0.mk (Kd.R_below (qR HO697.out) hb); have n3_ := Aside0.mk (Kd.R_below (qR HO701.out) hb); have n4_ := Aside0.mk (below_step (qB) hb); clear HO_8; clear HO_11; clear HO697; clear HO701; clear HB; have HO_8 := n0_; have HO_11 := n1_; have HO697 := n2_; have HO701 := n3_; have HB := n4_; clear n0_ n1_ n2_ n3_ n4_; (try clear hb); (try clear hb2); (try clear hk); (try clear hi)))
                          go_meet
                          case rel => exact ⟨_, ((t699 != t674)), qS, H', ⟨by have := HJ9.out; have := HJ29.out; first | omega | exact Nat.le_refl _⟩, ⟨by (with_reducible repeat (first | apply Kd.R_alloc | apply Kd.R_drewN | apply Kd.R_drew)); exact Kd.R_mono HO_11.out (fun _ hk => trivial)⟩, ⟨qB⟩⟩
                        · replace c60 := Bool.eq_false_iff.mpr c60
                          subst c60
                          have H1 : (laws_FnExactFoldTerm.j2 kj29 t693 t692 true) = some r := by rw [if_neg (show ¬ (false = true) by decide)] at H; exact H
                          clear H
                          have H := H1
                          clear H1
                          have H' := Aside0.mk H
                          clear H
                          obtain ⟨Ao64, co64, eo64⟩ := Kd.R_slice HO701.out
                          subst eo64
                          obtain ⟨Ao65, co65, eo65⟩ := Kd.R_slice HO_8.out
                          subst eo65
                          go_wp2_with (first | ((with_reducible refine gate_callee (f := 13) rfl ?_); refine goesL_ (some 91) rfl rfl Try.func13 (by kernel_rfl) rfl #[.slice Ao64 t698.length co64, .slice Ao65 t673.length co65] rfl qG ?_; (with_reducible refine (laws_eqNodeS.calls kj29 _ _ t698 _ _ t673 false _ ?side1 ?side2 ?side3 ?side4 A59.out).mono ?_); (case side1 => repeat (first | exact (Kd.R_reads' HO701.out).2.2 | (with_reducible refine Kd.C_alloc ?_ _) | (with_reducible refine Kd.C_drewN ?_ _) | (with_reducible refine Kd.C_drew ?_))); (case side2 => exact (Kd.R_reads' HO701.out).2.1); (case side3 => repeat (first | exact (Kd.R_reads' HO_8.out).2.2 | (with_reducible refine Kd.C_alloc ?_ _) | (with_reducible refine Kd.C_drewN ?_ _) | (with_reducible refine Kd.C_drew ?_))); (case side4 => exact (Kd.R_reads' HO_8.out).2.1); rintro e w66 ⟨rfl, hb⟩; refine ⟨_, rfl, ?_⟩; have n0_ := Aside0.mk (Kd.R_below (qR HO_8.out) hb); have n1_ := Aside0.mk (Kd.R_below (qR HO_11.out) hb); have n2_ := Aside0.mk (Kd.R_below (qR HO697.out) hb); have n3_ := Aside0.mk (Kd.R_below (qR HO701.out) hb); have n4_ := Aside0.mk (below_step (qB) hb); clear HO_8; clear HO_11; clear HO697; clear HO701; clear HB; have HO_8 := n0_; have HO_11 := n1_; have HO697 := n2_; have HO701 := n3_; have HB := n4_; clear n0_ n1_ n2_ n3_ n4_; (try clear hb); (try clear hb2); (try clear hk); (try clear hi)))
                          go_meet
                          case rel => exact ⟨_, (true), qS, H', ⟨by have := HJ9.out; have := HJ29.out; first | omega | exact Nat.le_refl _⟩, ⟨by (with_reducible repeat (first | apply Kd.R_alloc | apply Kd.R_drewN | apply Kd.R_drew)); exact Kd.R_mono HO_11.out (fun _ hk => trivial)⟩, ⟨qB⟩⟩
                      case rest =>
                        clear HC53
                        try clear c1
                        try clear c2
                        try clear p2
                        try clear c3
                        try clear c4
                        try clear c5
                        try clear c5b0
                        try clear c6
                        try clear c7
                        try clear c10
                        try clear c13
                        try clear c15
                        try clear c17
                        try clear c18
                        try clear c22
                        try clear c23
                        try clear c25
                        try clear c28
                        try clear c35
                        try clear c35b0
                        try clear c37
                        try clear c44
                        try clear c47
                        try clear c47b0
                        try clear c50
                        try clear c50b0
                        try clear c50b1
                        try clear c60
                        try clear p2
                        obtain ⟨kq, x97_52, rfl, HA, HJ52, HO_11, HB⟩ := hcut
                        have hl11_52 := (Kd.R_reads' HO_11.out).1
                        rw [hl11_52] at HO_11
                        (try simp only [hl11_52])
                        cases kq with
                        | zero => exact absurd HA.out (by simp [laws_FnExactFoldTerm.j2])
                        | succ kj52 =>
                          have H := HA.out
                          clear HA
                          simp only [laws_FnExactFoldTerm.j2] at H
                          by_cases c67 : x97_52 = true
                          · subst c67
                            have H1 : (some false) = some r := by rw [if_pos rfl] at H; exact H
                            clear H
                            have H := H1
                            clear H1
                            obtain rfl := Option.some.inj H
                            go_wp2
                            go_ret
                            exact ⟨qE, qB⟩
                          · replace c67 := Bool.eq_false_iff.mpr c67
                            subst c67
                            have H1 : ((laws_heldNodeS.f kj52 t693 1).bind fun t703 => (if t703 < 0 then (some false) else (if t703 = t692 then (some true) else (some false)))) = some r := by rw [if_neg (show ¬ (false = true) by decide)] at H; exact H
                            clear H
                            have H := H1
                            clear H1
                            replace H := Option.bind_eq_some_iff.mp H
                            obtain ⟨t703, A680, H⟩ := H
                            replace H : (if t703 < 0 then (some false) else (if t703 = t692 then (some true) else (some false))) = some r := H
                            have A68 := Aside0.mk A680
                            clear A680
                            by_cases c69 : t703 < 0
                            · rw [if_pos c69] at H
                              have c69b0 : decide (t703 < 0) = true := decide_eq_true c69
                              clear c69
                              obtain rfl := Option.some.inj H
                              go_wp2_with (first | ((with_reducible refine gate_callee (f := 17) rfl ?_); refine goesL_ (some 100) rfl rfl Try.func17 (by kernel_rfl) rfl #[.slice Ao54 t693.length co54, .int .i64 1] rfl qG ?_; (with_reducible refine (laws_heldNodeS.calls kj52 _ _ t693 1 t703 _ ?side1 ?side2 A68.out).mono ?_); (case side1 => repeat (first | exact (Kd.R_reads' HO_11.out).2.2 | (with_reducible refine Kd.C_alloc ?_ _) | (with_reducible refine Kd.C_drewN ?_ _) | (with_reducible refine Kd.C_drew ?_))); (case side2 => exact (Kd.R_reads' HO_11.out).2.1); rintro e w' ⟨rfl, ⟨nd, rfl⟩⟩; refine ⟨_, rfl, ?_⟩))
                              go_ret
                              exact ⟨qE, qB⟩
                            · rw [if_neg c69] at H
                              have c69b0 : decide (t703 < 0) = false := decide_eq_false c69
                              clear c69
                              by_cases c70 : t703 = t692
                              · rw [if_pos c70] at H
                                have c70b0 : (t703 == t692) = true := beq_iff_eq.mpr c70
                                have c70b1 : (t703 != t692) = false := bne_eq_false_iff_eq.mpr c70
                                clear c70
                                obtain rfl := Option.some.inj H
                                go_wp2_with (first | ((with_reducible refine gate_callee (f := 17) rfl ?_); refine goesL_ (some 100) rfl rfl Try.func17 (by kernel_rfl) rfl #[.slice Ao54 t693.length co54, .int .i64 1] rfl qG ?_; (with_reducible refine (laws_heldNodeS.calls kj52 _ _ t693 1 t703 _ ?side1 ?side2 A68.out).mono ?_); (case side1 => repeat (first | exact (Kd.R_reads' HO_11.out).2.2 | (with_reducible refine Kd.C_alloc ?_ _) | (with_reducible refine Kd.C_drewN ?_ _) | (with_reducible refine Kd.C_drew ?_))); (case side2 => exact (Kd.R_reads' HO_11.out).2.1); rintro e w' ⟨rfl, ⟨nd, rfl⟩⟩; refine ⟨_, rfl, ?_⟩))
                                go_ret
                                exact ⟨qE, qB⟩
                              · rw [if_neg c70] at H
                                have c70b0 : (t703 == t692) = false := beq_eq_false_iff_ne.mpr c70
                                have c70b1 : (t703 != t692) = true := bne_iff_ne.mpr c70
                                obtain rfl := Option.some.inj H
                                go_wp2_with (first | ((with_reducible refine gate_callee (f := 17) rfl ?_); refine goesL_ (some 100) rfl rfl Try.func17 (by kernel_rfl) rfl #[.slice Ao54 t693.length co54, .int .i64 1] rfl qG ?_; (with_reducible refine (laws_heldNodeS.calls kj52 _ _ t693 1 t703 _ ?side1 ?side2 A68.out).mono ?_); (case side1 => repeat (first | exact (Kd.R_reads' HO_11.out).2.2 | (with_reducible refine Kd.C_alloc ?_ _) | (with_reducible refine Kd.C_drewN ?_ _) | (with_reducible refine Kd.C_drew ?_))); (case side2 => exact (Kd.R_reads' HO_11.out).2.1); rintro e w' ⟨rfl, ⟨nd, rfl⟩⟩; refine ⟨_, rfl, ?_⟩))
                                go_ret
                                exact ⟨qE, qB⟩
                    · rw [if_neg c50] at H
                      have c50b0 : (t694 == t692) = false := beq_eq_false_iff_ne.mpr c50
                      have c50b1 : (t694 != t692) = true := bne_iff_ne.mpr c50
                      obtain rfl := Option.some.inj H
                      obtain ⟨Ao71, co71, eo71⟩ := Kd.R_slice HO_11.out
                      subst eo71
                      go_wp2_with (first | ((with_reducible refine gate_callee (f := 15) rfl ?_); refine goesL_ (some 72) rfl rfl Try.func15 (by kernel_rfl) rfl #[.slice Ao71 t680.length co71, .int .i64 1] rfl qG ?_; (with_reducible refine (laws_markNodeS.calls kj29 (fun k_ => some k_ = (.slice Ao71 t680.length co71 : Value).ownBlock) (.slice Ao71 t680.length co71) t680 1 t692 t693 w _ ?side1 ?side2 A45.out).mono ?_); (case side1 => repeat (first | (with_reducible first | exact HB.out | apply below_alloc | apply pw_below_drewN | apply below_drew1) | exact HB.out)); (case side2 => exact Kd.R_tight rfl HO_11.out); rintro e w72 ⟨rfl, hy0, hb, hkp⟩; refine ⟨_, rfl, ?_⟩; have n0_ := Aside0.mk (Kd.R_mono (ok' := fun k_ => some k_ ≠ (.slice Ao71 t680.length co71 : Value).ownBlock) (Kd.R_keptB (HO_8.out) hkp (fun k_ hk_ hs_ => (hk_) hs_)) (fun k_ hk_ => hk_.1)); have n1_ := Aside0.mk (Kd.R_reok rfl hy0 (fun k_ e_ => HO_11.out.1 k_ e_)); have n2_ := Aside0.mk (hb); clear HO_8; clear HO_11; clear HB; have HO_8 := n0_; have HO_11 := n1_; have HB := n2_; clear n0_ n1_ n2_; (try clear hb); (try clear hkp); (try clear hy0)) | ((with_reducible refine gate_callee (f := 17) rfl ?_); refine goesL_ (some 75) rfl rfl Try.func17 (by kernel_rfl) rfl #[.slice Ao71 t693.length co71, .int .i64 1] rfl (by (try simp only [List.map_toArray, List.map_cons, List.map_nil]); first | done | (rw [show t693.length = t680.length from (Kd.R_reads' HO_11.out).1.symm] <;> rfl) | rfl | (simp only [List.length_drop, List.length_take]; rfl)) ?_; (with_reducible refine (laws_heldNodeS.calls kj29 _ _ t693 1 t694 _ ?side1 ?side2 A46.out).mono ?_); (case side1 => repeat (first | exact (Kd.R_reads' HO_11.out).2.2 | (with_reducible refine Kd.C_alloc ?_ _) | (with_reducible refine Kd.C_drewN ?_ _) | (with_reducible refine Kd.C_drew ?_))); (case side2 => rw [show t693.length = t680.length from (Kd.R_reads' HO_11.out).1.symm]; exact (Kd.R_reads' HO_11.out).2.1); rintro e w' ⟨rfl, ⟨nd, rfl⟩⟩; refine ⟨_, rfl, ?_⟩))
                      go_ret
                      exact ⟨qE, qB⟩
          · replace c28 := Bool.eq_false_iff.mpr c28
            subst c28
            have H1 : (some false) = some r := by rw [if_neg (show ¬ (false = true) by decide)] at H; exact H
            clear H
            have H := H1
            clear H1
            obtain rfl := Option.some.inj H
            go_wp2_with (first | ((with_reducible refine gate_callee (f := 10) rfl ?_); refine goesL_ (some 51) rfl rfl Try.func10 (by kernel_rfl) rfl #[.slice A2 l2.length c2] rfl qG ?_; (with_reducible refine (laws_toNodeS.calls kj9 _ _ l2 t685 _ ?side1 ?side2 A26.out).mono ?_); (case side1 => exact qC (Kd.C_below HR2.out HB.out)); (case side2 => exact HC2.out); rintro e w73 ⟨v686, rfl, ho0, hb⟩; refine ⟨_, rfl, ?_⟩; have n0_ := Aside0.mk (Kd.R_elder' (qR HO_8.out) (Kd.R_base ho0) hb); have n1_ := Aside0.mk (Kd.R_elder' (qR HO_10.out) (Kd.R_base ho0) hb); have n2_ := Aside0.mk (Kd.R_elder' (qR HO_11.out) (Kd.R_base ho0) hb); have n3_ := Aside0.mk (Kd.R_lower (Kd.R_new' (Kd.R_new' (Kd.R_new' ho0 (Kd.R_lt (qR HO_8.out))) (Kd.R_lt (qR HO_10.out))) (Kd.R_lt (qR HO_11.out))) (below_size (qB))); have n4_ := Aside0.mk (below_step (qB) hb); clear HO_8; clear HO_10; clear HO_11; clear HB; have HO_8 := n0_; have HO_10 := n1_; have HO_11 := n2_; have HO687 := n3_; have HB := n4_; clear n0_ n1_ n2_ n3_ n4_; (try clear hb); (try clear hb2); (try clear hk); (try clear hi); (try clear ho0); obtain ⟨Ao74, co74, eo74⟩ := Kd.R_slice HO687.out; subst eo74) | ((with_reducible refine gate_callee (f := 13) rfl ?_); refine goesL_ (some 52) rfl rfl Try.func13 (by kernel_rfl) rfl #[.slice Ao15 t677.length co15, .slice Ao74 t685.length co74] rfl qG ?_; (with_reducible refine (laws_eqNodeS.calls kj9 _ _ t677 _ _ t685 false _ ?side1 ?side2 ?side3 ?side4 A27.out).mono ?_); (case side1 => repeat (first | exact (Kd.R_reads' HO_10.out).2.2 | (with_reducible refine Kd.C_alloc ?_ _) | (with_reducible refine Kd.C_drewN ?_ _) | (with_reducible refine Kd.C_drew ?_))); (case side2 => exact (Kd.R_reads' HO_10.out).2.1); (case side3 => repeat (first | exact (Kd.R_reads' HO687.out).2.2 | (with_reducible refine Kd.C_alloc ?_ _) | (with_reducible refine Kd.C_drewN ?_ _) | (with_reducible refine Kd.C_drew ?_))); (case side4 => exact (Kd.R_reads' HO687.out).2.1); rintro e w75 ⟨rfl, hb⟩; refine ⟨_, rfl, ?_⟩; have n0_ := Aside0.mk (Kd.R_below (qR HO_8.out) hb); have n1_ := Aside0.mk (Kd.R_below (qR HO_10.out) hb); have n2_ := Aside0.mk (Kd.R_below (qR HO_11.out) hb); have n3_ := Aside0.mk (Kd.R_below (qR HO687.out) hb); have n4_ := Aside0.mk (below_step (qB) hb); clear HO_8; clear HO_10; clear HO_11; clear HO687; clear HB; have HO_8 := n0_; have HO_10 := n1_; have HO_11 := n2_; have HO687 := n3_; have HB := n4_; clear n0_ n1_ n2_ n3_ n4_; (try clear hb); (try clear hb2); (try clear hk); (try clear hi)))
            go_ret
            exact ⟨qE, qB⟩
/-- THE PURE STATEMENT of laws_FnExactFoldTerm. -/
def laws_FnExactFoldTerm.Pure : Prop := ∀ (a0 : Int) (a1 : Int) (l2 : List (S54)), (Lit.int .i64 a0).wf = true → (Lit.int .i64 a1).wf = true → ((l2).length ≤ maxLen ∧ ∀ y ∈ l2, wf54 y) → ∃ k, laws_FnExactFoldTerm.f k a0 a1 l2 = some true
theorem laws_FnExactFoldTerm.walk (P : laws_FnExactFoldTerm.Pure) (a0 : Int) (a1 : Int) (A2 : Option Addr) (c2 : Nat) (l2 : List (S54)) (w : World) (hr2 : Kd.C k54 w A2 l2.length l2) (hc2 : l2.length ≤ c2) (w0 : (Lit.int .i64 a0).wf = true) (w1 : (Lit.int .i64 a1).wf = true) (w2 : ((l2).length ≤ maxLen ∧ ∀ y ∈ l2, wf54 y)) :
    Calls Try.prog 5 #[.int .i64 a0, .int .i64 a1, .slice A2 l2.length c2] w fun e w' => e = .returned (.bool true) ∧ Below w.heap.size w w' := by
  obtain ⟨k, h⟩ := P a0 a1 l2 w0 w1 w2
  refine (laws_FnExactFoldTerm.calls k a0 a1 A2 c2 l2 true w hr2 hc2 h).mono ?_
  rintro e w' ⟨rfl, hd⟩
  exact ⟨rfl, hd⟩

end Go.Proofs.Ytckdgmbmjfhodaa.X
