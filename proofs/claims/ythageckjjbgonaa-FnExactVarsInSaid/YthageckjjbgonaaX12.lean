/- Each Go function as a Lean function, with the proof that the call comes to just its answer; or a law's row out of its pure statement. Conditions: the arguments are of their kinds. Written by this session's program wip/xp/xp.sh. -/
import Derived.Test.YthageckjjbgonaaX0
import Derived.Test.YthageckjjbgonaaX1
import Derived.Test.YthageckjjbgonaaX4
import Derived.Test.YthageckjjbgonaaX10
import Derived.Test.YthageckjjbgonaaX11
import Derived.Test.YthageckjjbgonaaXO
namespace Go.Proofs.Ythageckjjbgonaa.X
open Go.RowKit Go.Proofs.YthageckjjbgonaaW.PrintWords Go.Proofs.YthageckjjbgonaaW.PrintLast Go.Proofs.YthageckjjbgonaaW.PrintMore
attribute [local go_sem] max2_int min2_int max_two min_two max_three min_three max_four min_four   -- for this text's walks alone
set_option linter.unusedVariables false
set_option linter.unusedSimpArgs false

/-! ### laws_FnExactKindOf: function 4 -/
def laws_FnExactKindOf.j0 : Nat → List (S49) → List (S47) → Bool → Option (Bool)
  | 0, _, _, _ => none
  | k + 1, x2, x10, x42 => if x42 = true then (some false) else ((laws_toNodeS.f k x2).bind fun t199 => ((laws_eqNodeS.f k x10 t199).bind fun t202 => (if t202 = true then (some true) else (some false))))
def laws_FnExactKindOf.f (k : Nat) (a0 : Int) (a1 : Int) (l2 : List (S49)) : Option (Bool) := (laws_szNodeS.f l2 1048576).bind fun t188 => (if t188 < 0 then (some true) else ((laws_toNodeS.f k l2).bind fun t189 => ((spec_KindOf.f k a0 a1 t189).bind fun bt192 => ((laws_toNodeS.f k l2).bind fun t194 => ((impl_KindOf.f k a0 a1 t194).bind fun bt197 => (if bt197.1 = bt192.1 then (laws_FnExactKindOf.j0 k l2 t194 (bt197.2 != bt192.2)) else (laws_FnExactKindOf.j0 k l2 t194 true)))))))
theorem laws_FnExactKindOf.mono_l : ∀ k, (∀ y0 y1 y2, LeO (laws_FnExactKindOf.j0 k y0 y1 y2) (laws_FnExactKindOf.j0 (k + 1) y0 y1 y2))
  | 0 => fun _ _ _ r h => by simp [laws_FnExactKindOf.j0] at h
  | k + 1 => by
    have ih0 := laws_FnExactKindOf.mono_l k
    · intro y0 y1 y2
      unfold laws_FnExactKindOf.j0
      repeat' first
      | (with_reducible exact ih0 _ _ _)
      | (with_reducible exact impl_KindOf.mono _ _ _ _)
      | (with_reducible exact laws_eqNodeS.mono _ _ _)
      | (with_reducible exact laws_toNodeS.mono _ _)
      | (with_reducible exact spec_KindOf.mono _ _ _ _)
      | (with_reducible exact LeO.refl _)
      | (with_reducible exact LeO.none _)
      | (with_reducible refine LeO.ite ?_ ?_)
      | (with_reducible refine LeO.bind ?_ (fun _ => ?_))
      | exact ih0 _ _ _
      | exact impl_KindOf.mono _ _ _ _
      | exact laws_eqNodeS.mono _ _ _
      | exact laws_toNodeS.mono _ _
      | exact spec_KindOf.mono _ _ _ _
      | exact LeO.none _
      | refine LeO.ite ?_ ?_
      | refine LeO.bind ?_ (fun _ => ?_)
theorem laws_FnExactKindOf.mono : ∀ a0 a1 a2 k, LeO (laws_FnExactKindOf.f k a0 a1 a2) (laws_FnExactKindOf.f (k + 1) a0 a1 a2) := by
  intro a0 a1 a2 k
  have ih0 := laws_FnExactKindOf.mono_l k
  unfold laws_FnExactKindOf.f
  repeat' first
      | (with_reducible exact ih0 _ _ _)
      | (with_reducible exact impl_KindOf.mono _ _ _ _)
      | (with_reducible exact laws_eqNodeS.mono _ _ _)
      | (with_reducible exact laws_toNodeS.mono _ _)
      | (with_reducible exact spec_KindOf.mono _ _ _ _)
      | (with_reducible exact LeO.refl _)
      | (with_reducible exact LeO.none _)
      | (with_reducible refine LeO.ite ?_ ?_)
      | (with_reducible refine LeO.bind ?_ (fun _ => ?_))
      | exact ih0 _ _ _
      | exact impl_KindOf.mono _ _ _ _
      | exact laws_eqNodeS.mono _ _ _
      | exact laws_toNodeS.mono _ _
      | exact spec_KindOf.mono _ _ _ _
      | exact LeO.none _
      | refine LeO.ite ?_ ?_
      | refine LeO.bind ?_ (fun _ => ?_)
set_option maxHeartbeats 8000000 in
set_option maxRecDepth 100000 in
theorem laws_FnExactKindOf.calls (k : Nat) (a0 : Int) (a1 : Int) (A2 : Option Addr) (c2 : Nat) (l2 : List (S49)) (r : Bool) (w : World) (hr2 : Kd.C k49 w A2 l2.length l2) (hc2 : l2.length ≤ c2) (h : laws_FnExactKindOf.f k a0 a1 l2 = some r) :
    Calls Try.prog 4 #[.int .i64 a0, .int .i64 a1, .slice A2 l2.length c2] w fun e w' => e = .returned (.bool r) ∧ Below w.heap.size w w' := by
  have HR2 := Aside0.mk hr2
  have HC2 := Aside0.mk hc2
  clear hr2 hc2
  have HB := Aside0.mk (Below.refl w.heap.size w)
  have H : ((laws_szNodeS.f l2 1048576).bind fun t188 => (if t188 < 0 then (some true) else ((laws_toNodeS.f k l2).bind fun t189 => ((spec_KindOf.f k a0 a1 t189).bind fun bt192 => ((laws_toNodeS.f k l2).bind fun t194 => ((impl_KindOf.f k a0 a1 t194).bind fun bt197 => (if bt197.1 = bt192.1 then (laws_FnExactKindOf.j0 k l2 t194 (bt197.2 != bt192.2)) else (laws_FnExactKindOf.j0 k l2 t194 true)))))))) = some r := h
  clear h
  replace H := Option.bind_eq_some_iff.mp H
  obtain ⟨t188, A40, H⟩ := H
  replace H : (if t188 < 0 then (some true) else ((laws_toNodeS.f k l2).bind fun t189 => ((spec_KindOf.f k a0 a1 t189).bind fun bt192 => ((laws_toNodeS.f k l2).bind fun t194 => ((impl_KindOf.f k a0 a1 t194).bind fun bt197 => (if bt197.1 = bt192.1 then (laws_FnExactKindOf.j0 k l2 t194 (bt197.2 != bt192.2)) else (laws_FnExactKindOf.j0 k l2 t194 true))))))) = some r := H
  have A4 := Aside0.mk A40
  clear A40
  by_cases c5 : t188 < 0
  · rw [if_pos c5] at H
    have c5b0 : decide (t188 < 0) = true := decide_eq_true c5
    clear c5
    obtain rfl := Option.some.inj H
    go_enter Try.func4, Try.ntmps4
    go_wp2_with (first | ((with_reducible refine gate_callee (f := 10) rfl ?_); refine goesL_ (some 15) rfl rfl Try.func10 (by kernel_rfl) rfl #[.slice A2 l2.length c2, .int .i64 1048576] rfl qG ?_; (with_reducible refine (laws_szNodeS.calls _ _ l2 1048576 t188 _ ?side1 ?side2 A4.out).mono ?_); (case side1 => exact qC HR2.out); (case side2 => exact HC2.out); rintro e w' ⟨rfl, ⟨nd, rfl⟩⟩; refine ⟨_, rfl, ?_⟩))
    go_ret
    exact ⟨qE, qB⟩
  · rw [if_neg c5] at H
    have c5b0 : decide (t188 < 0) = false := decide_eq_false c5
    clear c5
    replace H := Option.bind_eq_some_iff.mp H
    obtain ⟨t189, A60, H⟩ := H
    replace H : ((spec_KindOf.f k a0 a1 t189).bind fun bt192 => ((laws_toNodeS.f k l2).bind fun t194 => ((impl_KindOf.f k a0 a1 t194).bind fun bt197 => (if bt197.1 = bt192.1 then (laws_FnExactKindOf.j0 k l2 t194 (bt197.2 != bt192.2)) else (laws_FnExactKindOf.j0 k l2 t194 true))))) = some r := H
    have A6 := Aside0.mk A60
    clear A60
    replace H := Option.bind_eq_some_iff.mp H
    obtain ⟨⟨t192, t193⟩, A70, H⟩ := H
    replace H : ((laws_toNodeS.f k l2).bind fun t194 => ((impl_KindOf.f k a0 a1 t194).bind fun bt197 => (if bt197.1 = t192 then (laws_FnExactKindOf.j0 k l2 t194 (bt197.2 != t193)) else (laws_FnExactKindOf.j0 k l2 t194 true)))) = some r := H
    have A7 := Aside0.mk A70
    clear A70
    replace H := Option.bind_eq_some_iff.mp H
    obtain ⟨t194, A80, H⟩ := H
    replace H : ((impl_KindOf.f k a0 a1 t194).bind fun bt197 => (if bt197.1 = t192 then (laws_FnExactKindOf.j0 k l2 t194 (bt197.2 != t193)) else (laws_FnExactKindOf.j0 k l2 t194 true))) = some r := H
    have A8 := Aside0.mk A80
    clear A80
    replace H := Option.bind_eq_some_iff.mp H
    obtain ⟨⟨t197, t198⟩, A90, H⟩ := H
    replace H : (if t197 = t192 then (laws_FnExactKindOf.j0 k l2 t194 (t198 != t193)) else (laws_FnExactKindOf.j0 k l2 t194 true)) = some r := H
    have A9 := Aside0.mk A90
    clear A90
    have HC10 := Aside0.mk H
    clear H
    go_enter Try.func4, Try.ntmps4
    go_upto_region 8 with (first | ((with_reducible refine gate_callee (f := 10) rfl ?_); refine goesL_ (some 15) rfl rfl Try.func10 (by kernel_rfl) rfl #[.slice A2 l2.length c2, .int .i64 1048576] rfl qG ?_; (with_reducible refine (laws_szNodeS.calls _ _ l2 1048576 t188 _ ?side1 ?side2 A4.out).mono ?_); (case side1 => exact qC HR2.out); (case side2 => exact HC2.out); rintro e w' ⟨rfl, ⟨nd, rfl⟩⟩; refine ⟨_, rfl, ?_⟩) | ((with_reducible refine gate_callee (f := 12) rfl ?_); refine goesL_ (some 22) rfl rfl Try.func12 (by kernel_rfl) rfl #[.slice A2 l2.length c2] rfl qG ?_; (with_reducible refine (laws_toNodeS.calls k _ _ l2 t189 _ ?side1 ?side2 A6.out).mono ?_); (case side1 => exact qC HR2.out); (case side2 => exact HC2.out); rintro e w11 ⟨v190, rfl, ho0, hb⟩; refine ⟨_, rfl, ?_⟩; have n0_ := Aside0.mk (Kd.R_lower ho0 (below_size (qB))); have n1_ := Aside0.mk (below_step (qB) hb); clear HB; have HO191 := n0_; have HB := n1_; clear n0_ n1_; (try clear hb); (try clear hb2); (try clear hk); (try clear hi); (try clear ho0); obtain ⟨Ao12, co12, eo12⟩ := Kd.R_slice HO191.out; subst eo12) | ((with_reducible refine gate_callee (f := 15) rfl ?_); refine goesL_ (some 23) rfl rfl Try.func15 (by kernel_rfl) rfl #[.int .i64 a0, .int .i64 a1, .slice Ao12 t189.length co12] rfl qG ?_; (with_reducible refine (spec_KindOf.calls k a0 a1 _ _ t189 t192 t193 _ ?side1 ?side2 A7.out).mono ?_); (case side1 => repeat (first | exact (Kd.R_reads' HO191.out).2.2 | (with_reducible refine Kd.C_alloc ?_ _) | (with_reducible refine Kd.C_drewN ?_ _) | (with_reducible refine Kd.C_drew ?_))); (case side2 => exact (Kd.R_reads' HO191.out).2.1); rintro e w13 ⟨rfl, hb⟩; refine ⟨_, rfl, ?_⟩; have n0_ := Aside0.mk (Kd.R_below (qR HO191.out) hb); have n1_ := Aside0.mk (below_step (qB) hb); clear HO191; clear HB; have HO191 := n0_; have HB := n1_; clear n0_ n1_; (try clear hb); (try clear hb2); (try clear hk); (try clear hi)) | ((with_reducible refine gate_callee (f := 12) rfl ?_); refine goesL_ (some 27) rfl rfl Try.func12 (by kernel_rfl) rfl #[.slice A2 l2.length c2] rfl qG ?_; (with_reducible refine (laws_toNodeS.calls k _ _ l2 t194 _ ?side1 ?side2 A8.out).mono ?_); (case side1 => exact qC (Kd.C_below HR2.out HB.out)); (case side2 => exact HC2.out); rintro e w14 ⟨v195, rfl, ho0, hb⟩; refine ⟨_, rfl, ?_⟩; have n0_ := Aside0.mk (Kd.R_elder' (qR HO191.out) (Kd.R_base ho0) hb); have n1_ := Aside0.mk (Kd.R_lower (Kd.R_new' ho0 (Kd.R_lt (qR HO191.out))) (below_size (qB))); have n2_ := Aside0.mk (below_step (qB) hb); clear HO191; clear HB; have HO191 := n0_; have HO196 := n1_; have HB := n2_; clear n0_ n1_ n2_; (try clear hb); (try clear hb2); (try clear hk); (try clear hi); (try clear ho0); obtain ⟨Ao15, co15, eo15⟩ := Kd.R_slice HO196.out; subst eo15) | ((with_reducible refine gate_callee (f := 16) rfl ?_); refine goesL_ (some 32) rfl rfl Try.func16 (by kernel_rfl) rfl #[.int .i64 a0, .int .i64 a1, .slice Ao15 t194.length co15] rfl qG ?_; (with_reducible refine (impl_KindOf.calls k a0 a1 _ _ t194 t197 t198 _ ?side1 ?side2 A9.out).mono ?_); (case side1 => repeat (first | exact (Kd.R_reads' HO196.out).2.2 | (with_reducible refine Kd.C_alloc ?_ _) | (with_reducible refine Kd.C_drewN ?_ _) | (with_reducible refine Kd.C_drew ?_))); (case side2 => exact (Kd.R_reads' HO196.out).2.1); rintro e w16 ⟨rfl, hb⟩; refine ⟨_, rfl, ?_⟩; have n0_ := Aside0.mk (Kd.R_below (qR HO191.out) hb); have n1_ := Aside0.mk (Kd.R_below (qR HO196.out) hb); have n2_ := Aside0.mk (below_step (qB) hb); clear HO191; clear HO196; clear HB; have HO191 := n0_; have HO196 := n1_; have HB := n2_; clear n0_ n1_ n2_; (try clear hb); (try clear hb2); (try clear hk); (try clear hi)))
    (try simp only [Act.put, List.setIfInBounds_toArray, List.set_cons_zero, List.set_cons_succ])
    go_cut [42] (fun v42 wc => ∃ (kq : Nat) (x42_9 : Bool), v42 = .bool x42_9 ∧ Aside0 (laws_FnExactKindOf.j0 kq l2 t194 x42_9 = some r) ∧ Aside0 (kq ≤ k) ∧ Aside0 (Kd.R k47 47 wc w.heap.size (fun _ => True) (.slice Ao15 t194.length co15) t194) ∧ Aside0 (Below w.heap.size w wc))
    case first =>
      have H := HC10.out
      clear HC10
      by_cases c17 : t197 = t192
      · rw [if_pos c17] at H
        have c17b0 : (t197 == t192) = true := beq_iff_eq.mpr c17
        have c17b1 : (t197 != t192) = false := bne_eq_false_iff_eq.mpr c17
        clear c17
        (first | rw [c17b0] | (simp only [i64_w, i32_w]; rw [c17b0]) | skip)
        have H' := Aside0.mk H
        clear H
        go_wp2
        go_meet
        case rel => exact ⟨_, ((t198 != t193)), qS, H', ⟨by first | omega | exact Nat.le_refl _⟩, ⟨by (with_reducible repeat (first | apply Kd.R_alloc | apply Kd.R_drewN | apply Kd.R_drew)); exact Kd.R_mono HO196.out (fun _ hk => trivial)⟩, ⟨qB⟩⟩
      · rw [if_neg c17] at H
        have c17b0 : (t197 == t192) = false := beq_eq_false_iff_ne.mpr c17
        have c17b1 : (t197 != t192) = true := bne_iff_ne.mpr c17
        (first | rw [c17b0] | (simp only [i64_w, i32_w]; rw [c17b0]) | skip)
        have H' := Aside0.mk H
        clear H
        go_wp2
        go_meet
        case rel => exact ⟨_, (true), qS, H', ⟨by first | omega | exact Nat.le_refl _⟩, ⟨by (with_reducible repeat (first | apply Kd.R_alloc | apply Kd.R_drewN | apply Kd.R_drew)); exact Kd.R_mono HO196.out (fun _ hk => trivial)⟩, ⟨qB⟩⟩
    case rest =>
      clear HC10
      try clear c1
      try clear c2
      try clear p2
      try clear c4
      try clear c5
      try clear c5b0
      try clear c10
      try clear c12
      try clear c15
      try clear c16
      try clear c17
      try clear c17b0
      try clear c17b1
      obtain ⟨kq, x42_9, rfl, HA, HJ9, HO_10, HB⟩ := hcut
      cases kq with
      | zero => exact absurd HA.out (by simp [laws_FnExactKindOf.j0])
      | succ kj9 =>
        have H := HA.out
        clear HA
        simp only [laws_FnExactKindOf.j0] at H
        by_cases c18 : x42_9 = true
        · subst c18
          have H1 : (some false) = some r := by rw [if_pos rfl] at H; exact H
          clear H
          have H := H1
          clear H1
          obtain rfl := Option.some.inj H
          go_wp2
          go_ret
          exact ⟨qE, qB⟩
        · replace c18 := Bool.eq_false_iff.mpr c18
          subst c18
          have H1 : ((laws_toNodeS.f kj9 l2).bind fun t199 => ((laws_eqNodeS.f kj9 t194 t199).bind fun t202 => (if t202 = true then (some true) else (some false)))) = some r := by rw [if_neg (show ¬ (false = true) by decide)] at H; exact H
          clear H
          have H := H1
          clear H1
          replace H := Option.bind_eq_some_iff.mp H
          obtain ⟨t199, A190, H⟩ := H
          replace H : ((laws_eqNodeS.f kj9 t194 t199).bind fun t202 => (if t202 = true then (some true) else (some false))) = some r := H
          have A19 := Aside0.mk A190
          clear A190
          replace H := Option.bind_eq_some_iff.mp H
          obtain ⟨t202, A200, H⟩ := H
          replace H : (if t202 = true then (some true) else (some false)) = some r := H
          have A20 := Aside0.mk A200
          clear A200
          by_cases c21 : t202 = true
          · subst c21
            have H1 : (some true) = some r := by rw [if_pos rfl] at H; exact H
            clear H
            have H := H1
            clear H1
            obtain rfl := Option.some.inj H
            go_wp2_with (first | ((with_reducible refine gate_callee (f := 12) rfl ?_); refine goesL_ (some 45) rfl rfl Try.func12 (by kernel_rfl) rfl #[.slice A2 l2.length c2] rfl qG ?_; (with_reducible refine (laws_toNodeS.calls kj9 _ _ l2 t199 _ ?side1 ?side2 A19.out).mono ?_); (case side1 => exact qC (Kd.C_below HR2.out HB.out)); (case side2 => exact HC2.out); rintro e w22 ⟨v200, rfl, ho0, hb⟩; refine ⟨_, rfl, ?_⟩; have n0_ := Aside0.mk (Kd.R_elder' (qR HO_10.out) (Kd.R_base ho0) hb); have n1_ := Aside0.mk (Kd.R_lower (Kd.R_new' ho0 (Kd.R_lt (qR HO_10.out))) (below_size (qB))); have n2_ := Aside0.mk (below_step (qB) hb); clear HO_10; clear HB; have HO_10 := n0_; have HO201 := n1_; have HB := n2_; clear n0_ n1_ n2_; (try clear hb); (try clear hb2); (try clear hk); (try clear hi); (try clear ho0); obtain ⟨Ao23, co23, eo23⟩ := Kd.R_slice HO201.out; subst eo23) | ((with_reducible refine gate_callee (f := 14) rfl ?_); refine goesL_ (some 46) rfl rfl Try.func14 (by kernel_rfl) rfl #[.slice Ao15 t194.length co15, .slice Ao23 t199.length co23] rfl qG ?_; (with_reducible refine (laws_eqNodeS.calls kj9 _ _ t194 _ _ t199 true _ ?side1 ?side2 ?side3 ?side4 A20.out).mono ?_); (case side1 => repeat (first | exact (Kd.R_reads' HO_10.out).2.2 | (with_reducible refine Kd.C_alloc ?_ _) | (with_reducible refine Kd.C_drewN ?_ _) | (with_reducible refine Kd.C_drew ?_))); (case side2 => exact (Kd.R_reads' HO_10.out).2.1); (case side3 => repeat (first | exact (Kd.R_reads' HO201.out).2.2 | (with_reducible refine Kd.C_alloc ?_ _) | (with_reducible refine Kd.C_drewN ?_ _) | (with_reducible refine Kd.C_drew ?_))); (case side4 => exact (Kd.R_reads' HO201.out).2.1); rintro e w24 ⟨rfl, hb⟩; refine ⟨_, rfl, ?_⟩; have n0_ := Aside0.mk (Kd.R_below (qR HO_10.out) hb); have n1_ := Aside0.mk (Kd.R_below (qR HO201.out) hb); have n2_ := Aside0.mk (below_step (qB) hb); clear HO_10; clear HO201; clear HB; have HO_10 := n0_; have HO201 := n1_; have HB := n2_; clear n0_ n1_ n2_; (try clear hb); (try clear hb2); (try clear hk); (try clear hi)))
            go_ret
            exact ⟨qE, qB⟩
          · replace c21 := Bool.eq_false_iff.mpr c21
            subst c21
            have H1 : (some false) = some r := by rw [if_neg (show ¬ (false = true) by decide)] at H; exact H
            clear H
            have H := H1
            clear H1
            obtain rfl := Option.some.inj H
            go_wp2_with (first | ((with_reducible refine gate_callee (f := 12) rfl ?_); refine goesL_ (some 45) rfl rfl Try.func12 (by kernel_rfl) rfl #[.slice A2 l2.length c2] rfl qG ?_; (with_reducible refine (laws_toNodeS.calls kj9 _ _ l2 t199 _ ?side1 ?side2 A19.out).mono ?_); (case side1 => exact qC (Kd.C_below HR2.out HB.out)); (case side2 => exact HC2.out); rintro e w25 ⟨v200, rfl, ho0, hb⟩; refine ⟨_, rfl, ?_⟩; have n0_ := Aside0.mk (Kd.R_elder' (qR HO_10.out) (Kd.R_base ho0) hb); have n1_ := Aside0.mk (Kd.R_lower (Kd.R_new' ho0 (Kd.R_lt (qR HO_10.out))) (below_size (qB))); have n2_ := Aside0.mk (below_step (qB) hb); clear HO_10; clear HB; have HO_10 := n0_; have HO201 := n1_; have HB := n2_; clear n0_ n1_ n2_; (try clear hb); (try clear hb2); (try clear hk); (try clear hi); (try clear ho0); obtain ⟨Ao26, co26, eo26⟩ := Kd.R_slice HO201.out; subst eo26) | ((with_reducible refine gate_callee (f := 14) rfl ?_); refine goesL_ (some 46) rfl rfl Try.func14 (by kernel_rfl) rfl #[.slice Ao15 t194.length co15, .slice Ao26 t199.length co26] rfl qG ?_; (with_reducible refine (laws_eqNodeS.calls kj9 _ _ t194 _ _ t199 false _ ?side1 ?side2 ?side3 ?side4 A20.out).mono ?_); (case side1 => repeat (first | exact (Kd.R_reads' HO_10.out).2.2 | (with_reducible refine Kd.C_alloc ?_ _) | (with_reducible refine Kd.C_drewN ?_ _) | (with_reducible refine Kd.C_drew ?_))); (case side2 => exact (Kd.R_reads' HO_10.out).2.1); (case side3 => repeat (first | exact (Kd.R_reads' HO201.out).2.2 | (with_reducible refine Kd.C_alloc ?_ _) | (with_reducible refine Kd.C_drewN ?_ _) | (with_reducible refine Kd.C_drew ?_))); (case side4 => exact (Kd.R_reads' HO201.out).2.1); rintro e w27 ⟨rfl, hb⟩; refine ⟨_, rfl, ?_⟩; have n0_ := Aside0.mk (Kd.R_below (qR HO_10.out) hb); have n1_ := Aside0.mk (Kd.R_below (qR HO201.out) hb); have n2_ := Aside0.mk (below_step (qB) hb); clear HO_10; clear HO201; clear HB; have HO_10 := n0_; have HO201 := n1_; have HB := n2_; clear n0_ n1_ n2_; (try clear hb); (try clear hb2); (try clear hk); (try clear hi)))
            go_ret
            exact ⟨qE, qB⟩
/-- THE PURE STATEMENT of laws_FnExactKindOf. -/
def laws_FnExactKindOf.Pure : Prop := ∀ (a0 : Int) (a1 : Int) (l2 : List (S49)), (Lit.int .i64 a0).wf = true → (Lit.int .i64 a1).wf = true → ((l2).length ≤ maxLen ∧ ∀ y ∈ l2, wf49 y) → ∃ k, laws_FnExactKindOf.f k a0 a1 l2 = some true
theorem laws_FnExactKindOf.walk (P : laws_FnExactKindOf.Pure) (a0 : Int) (a1 : Int) (A2 : Option Addr) (c2 : Nat) (l2 : List (S49)) (w : World) (hr2 : Kd.C k49 w A2 l2.length l2) (hc2 : l2.length ≤ c2) (w0 : (Lit.int .i64 a0).wf = true) (w1 : (Lit.int .i64 a1).wf = true) (w2 : ((l2).length ≤ maxLen ∧ ∀ y ∈ l2, wf49 y)) :
    Calls Try.prog 4 #[.int .i64 a0, .int .i64 a1, .slice A2 l2.length c2] w fun e w' => e = .returned (.bool true) ∧ Below w.heap.size w w' := by
  obtain ⟨k, h⟩ := P a0 a1 l2 w0 w1 w2
  refine (laws_FnExactKindOf.calls k a0 a1 A2 c2 l2 true w hr2 hc2 h).mono ?_
  rintro e w' ⟨rfl, hd⟩
  exact ⟨rfl, hd⟩

end Go.Proofs.Ythageckjjbgonaa.X
