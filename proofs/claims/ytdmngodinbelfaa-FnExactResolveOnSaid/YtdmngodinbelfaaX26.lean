/- Go functions as Lean functions, each with the proof that its call comes to just its answer. Conditions: the arguments are of their kinds. -/
import Derived.Test.YtdmngodinbelfaaX0
import Derived.Test.YtdmngodinbelfaaX1
import Derived.Test.YtdmngodinbelfaaX22
namespace Go.Proofs.Ytdmngodinbelfaa.X
open Go.RowKit Go.Proofs.YtdmngodinbelfaaW.PrintWords Go.Proofs.YtdmngodinbelfaaW.PrintLast Go.Proofs.YtdmngodinbelfaaW.PrintMore
attribute [local go_sem] max2_int min2_int max_two min_two max_three min_three max_four min_four   -- for this text's walks alone
set_option linter.unusedVariables false
set_option linter.unusedSimpArgs false

/-! ### spec_ResolveOn: function 31 -/
mutual
def spec_ResolveOn.j0 : Nat → List Int → List Int → Int → Bool → Option (List Int × Bool)
 | 0, _, _, _, _ => none
 | k + 1, x0, x1, x2, x37 => if x37 = true then (some (([] : List Int), false)) else (spec_ResolveOn.l0 k x0 x1 x2 ([] : List Int) 1)
def spec_ResolveOn.l0 : Nat → List Int → List Int → Int → List Int → Int → Option (List Int × Bool)
 | 0, _, _, _, _, _ => none
 | k + 1, x0, x1, x2, x8, x9 => if x9 ≤ 400 then ((some (([wrap64 (-x9), x9] : List Int) : List Int)).bind fun y366 => (spec_ResolveOn.l1 k x0 x1 x2 x8 x9 y366 (y366.length : Int) 0)) else (if (x8.length : Int) > 8 then (some (([] : List Int), false)) else (some (x8, true)))
def spec_ResolveOn.l1 : Nat → List Int → List Int → Int → List Int → Int → List Int → Int → Int → Option (List Int × Bool)
 | 0, _, _, _, _, _, _, _, _ => none
 | k + 1, x0, x1, x2, x8, x9, x45, x46, x47 => if x47 < x46 then (if 0 ≤ x47 then (if x47 < (x45.length : Int) then ((spec_l1Has.f k x0 (rd x45 x47)).bind fun t370 => (if t370 = true then (if (rd x45 x47) = x2 then ((spec_l1Has.f k x1 (rd x45 x47)).bind fun t371 => (if t371 = true then (if (rd x45 x47) = (wrap64 (-x2)) then (spec_ResolveOn.l1 k x0 x1 x2 x8 x9 x45 x46 (wrap64 (x47 + 1))) else (if x8.length < 17592186044416 then (spec_ResolveOn.l1 k x0 x1 x2 (x8 ++ [rd x45 x47]) x9 x45 x46 (wrap64 (x47 + 1))) else (none))) else (spec_ResolveOn.l1 k x0 x1 x2 x8 x9 x45 x46 (wrap64 (x47 + 1))))) else (if x8.length < 17592186044416 then (spec_ResolveOn.l1 k x0 x1 x2 (x8 ++ [rd x45 x47]) x9 x45 x46 (wrap64 (x47 + 1))) else (none))) else ((spec_l1Has.f k x1 (rd x45 x47)).bind fun t378 => (if t378 = true then (if (rd x45 x47) = (wrap64 (-x2)) then (spec_ResolveOn.l1 k x0 x1 x2 x8 x9 x45 x46 (wrap64 (x47 + 1))) else (if x8.length < 17592186044416 then (spec_ResolveOn.l1 k x0 x1 x2 (x8 ++ [rd x45 x47]) x9 x45 x46 (wrap64 (x47 + 1))) else (none))) else (spec_ResolveOn.l1 k x0 x1 x2 x8 x9 x45 x46 (wrap64 (x47 + 1))))))) else (none)) else (none)) else (spec_ResolveOn.l0 k x0 x1 x2 x8 (wrap64 (x9 + 1)))
end
def spec_ResolveOn.f (k : Nat) (l0 : List Int) (l1 : List Int) (a2 : Int) : Option (List Int × Bool) := (spec_l6Clause.f k 400 l0).bind fun t361 => (if t361 = true then ((spec_l6Clause.f k 400 l1).bind fun t362 => (if t362 = true then ((spec_l1In.f a2 1 400).bind fun t363 => (if t363 = true then ((spec_l1Has.f k l0 a2).bind fun t364 => (if t364 = true then ((spec_l1Has.f k l1 (wrap64 (-a2))).bind fun t365 => (spec_ResolveOn.j0 k l0 l1 a2 (!t365))) else (spec_ResolveOn.j0 k l0 l1 a2 true))) else (spec_ResolveOn.j0 k l0 l1 a2 true))) else (spec_ResolveOn.j0 k l0 l1 a2 true))) else (spec_ResolveOn.j0 k l0 l1 a2 true))
theorem spec_ResolveOn.mono_l : ∀ k, (∀ y0 y1 y2 y3, LeO (spec_ResolveOn.j0 k y0 y1 y2 y3) (spec_ResolveOn.j0 (k + 1) y0 y1 y2 y3)) ∧ (∀ y0 y1 y2 y3 y4, LeO (spec_ResolveOn.l0 k y0 y1 y2 y3 y4) (spec_ResolveOn.l0 (k + 1) y0 y1 y2 y3 y4)) ∧ (∀ y0 y1 y2 y3 y4 y5 y6 y7, LeO (spec_ResolveOn.l1 k y0 y1 y2 y3 y4 y5 y6 y7) (spec_ResolveOn.l1 (k + 1) y0 y1 y2 y3 y4 y5 y6 y7))
 | 0 => ⟨fun _ _ _ _ r h => by simp [spec_ResolveOn.j0] at h, fun _ _ _ _ _ r h => by simp [spec_ResolveOn.l0] at h, fun _ _ _ _ _ _ _ _ r h => by simp [spec_ResolveOn.l1] at h⟩
 | k + 1 => by
  obtain ⟨ih0, ih1, ih2⟩ := spec_ResolveOn.mono_l k
  refine ⟨?_, ?_, ?_⟩
  ·intro y0 y1 y2 y3
   unfold spec_ResolveOn.j0
   repeat' first
   | (with_reducible exact ih0 _ _ _ _)
   | (with_reducible exact ih1 _ _ _ _ _)
   | (with_reducible exact ih2 _ _ _ _ _ _ _ _)
   | (with_reducible exact spec_l1Has.mono _ _ _)
   | (with_reducible exact spec_l6Clause.mono _ _ _)
   | (with_reducible first | exact LeO.refl _ | exact LeO.none _ | refine LeO.ite ?_ ?_ | refine LeO.bind ?_ (fun _ => ?_))
   | exact ih0 _ _ _ _
   | exact ih1 _ _ _ _ _
   | exact ih2 _ _ _ _ _ _ _ _
   | exact spec_l1Has.mono _ _ _
   | exact spec_l6Clause.mono _ _ _
   | exact LeO.none _ | refine LeO.ite ?_ ?_ | refine LeO.bind ?_ (fun _ => ?_)
  ·intro y0 y1 y2 y3 y4
   unfold spec_ResolveOn.l0
   repeat' first
   | (with_reducible exact ih0 _ _ _ _)
   | (with_reducible exact ih1 _ _ _ _ _)
   | (with_reducible exact ih2 _ _ _ _ _ _ _ _)
   | (with_reducible exact spec_l1Has.mono _ _ _)
   | (with_reducible exact spec_l6Clause.mono _ _ _)
   | (with_reducible first | exact LeO.refl _ | exact LeO.none _ | refine LeO.ite ?_ ?_ | refine LeO.bind ?_ (fun _ => ?_))
   | exact ih0 _ _ _ _
   | exact ih1 _ _ _ _ _
   | exact ih2 _ _ _ _ _ _ _ _
   | exact spec_l1Has.mono _ _ _
   | exact spec_l6Clause.mono _ _ _
   | exact LeO.none _ | refine LeO.ite ?_ ?_ | refine LeO.bind ?_ (fun _ => ?_)
  ·intro y0 y1 y2 y3 y4 y5 y6 y7
   unfold spec_ResolveOn.l1
   repeat' first
   | (with_reducible exact ih0 _ _ _ _)
   | (with_reducible exact ih1 _ _ _ _ _)
   | (with_reducible exact ih2 _ _ _ _ _ _ _ _)
   | (with_reducible exact spec_l1Has.mono _ _ _)
   | (with_reducible exact spec_l6Clause.mono _ _ _)
   | (with_reducible first | exact LeO.refl _ | exact LeO.none _ | refine LeO.ite ?_ ?_ | refine LeO.bind ?_ (fun _ => ?_))
   | exact ih0 _ _ _ _
   | exact ih1 _ _ _ _ _
   | exact ih2 _ _ _ _ _ _ _ _
   | exact spec_l1Has.mono _ _ _
   | exact spec_l6Clause.mono _ _ _
   | exact LeO.none _ | refine LeO.ite ?_ ?_ | refine LeO.bind ?_ (fun _ => ?_)
theorem spec_ResolveOn.mono : ∀ a0 a1 a2 k, LeO (spec_ResolveOn.f k a0 a1 a2) (spec_ResolveOn.f (k + 1) a0 a1 a2) := by
 intro a0 a1 a2 k
 obtain ⟨ih0, ih1, ih2⟩ := spec_ResolveOn.mono_l k
 unfold spec_ResolveOn.f
 repeat' first
   | (with_reducible exact ih0 _ _ _ _)
   | (with_reducible exact ih1 _ _ _ _ _)
   | (with_reducible exact ih2 _ _ _ _ _ _ _ _)
   | (with_reducible exact spec_l1Has.mono _ _ _)
   | (with_reducible exact spec_l6Clause.mono _ _ _)
   | (with_reducible first | exact LeO.refl _ | exact LeO.none _ | refine LeO.ite ?_ ?_ | refine LeO.bind ?_ (fun _ => ?_))
   | exact ih0 _ _ _ _
   | exact ih1 _ _ _ _ _
   | exact ih2 _ _ _ _ _ _ _ _
   | exact spec_l1Has.mono _ _ _
   | exact spec_l6Clause.mono _ _ _
   | exact LeO.none _ | refine LeO.ite ?_ ?_ | refine LeO.bind ?_ (fun _ => ?_)
set_option maxHeartbeats 8000000 in
set_option maxRecDepth 100000 in
theorem spec_ResolveOn.calls (k : Nat) (A0 : Option Addr) (c0 : Nat) (l0 : List Int) (A1 : Option Addr) (c1 : Nat) (l1 : List Int) (a2 : Int) (r1 : List Int) (r2 : Bool) (w : World) (hr0 : Kd.C (Kd.int .i64) w A0 l0.length l0) (hc0 : l0.length ≤ c0) (hr1 : Kd.C (Kd.int .i64) w A1 l1.length l1) (hc1 : l1.length ≤ c1) (h : spec_ResolveOn.f k l0 l1 a2 = some (r1, r2)) :
  Calls Try.prog 31 #[.slice A0 l0.length c0, .slice A1 l1.length c1, .int .i64 a2] w fun e w' => ∃ v0_ : Value, e = .returned (.tuple #[v0_, .bool r2]) ∧ Kd.R (Kd.int .i64) 3 w' w.heap.size (fun _ => True) v0_ r1 ∧ Below w.heap.size w w' := by
 have HR0 := Aside0.mk hr0
 have HC0 := Aside0.mk hc0
 clear hr0 hc0
 have HR1 := Aside0.mk hr1
 have HC1 := Aside0.mk hc1
 clear hr1 hc1
 have HB := Aside0.mk (Below.refl w.heap.size w)
 have H : ((spec_l6Clause.f k 400 l0).bind fun t361 => (if t361 = true then ((spec_l6Clause.f k 400 l1).bind fun t362 => (if t362 = true then ((spec_l1In.f a2 1 400).bind fun t363 => (if t363 = true then ((spec_l1Has.f k l0 a2).bind fun t364 => (if t364 = true then ((spec_l1Has.f k l1 (wrap64 (-a2))).bind fun t365 => (spec_ResolveOn.j0 k l0 l1 a2 (!t365))) else (spec_ResolveOn.j0 k l0 l1 a2 true))) else (spec_ResolveOn.j0 k l0 l1 a2 true))) else (spec_ResolveOn.j0 k l0 l1 a2 true))) else (spec_ResolveOn.j0 k l0 l1 a2 true))) = some (r1, r2) := h
 clear h
 have HC4 := Aside0.mk H
 clear H
 go_enter Try.func31, Try.ntmps31
 go_upto_region 1 with (fail)
 go_cut [37] (fun v37 wc => ∃ (kq : Nat) (x37_3 : Bool), v37 = .bool x37_3 ∧ Aside0 (spec_ResolveOn.j0 kq l0 l1 a2 x37_3 = some (r1, r2)) ∧ Aside0 (kq ≤ k) ∧ Aside0 (Below w.heap.size w wc))
 case first =>
  have H := HC4.out
  clear HC4
  replace H := Option.bind_eq_some_iff.mp H
  obtain ⟨t361, A50, H⟩ := H
  replace H : (if t361 = true then ((spec_l6Clause.f k 400 l1).bind fun t362 => (if t362 = true then ((spec_l1In.f a2 1 400).bind fun t363 => (if t363 = true then ((spec_l1Has.f k l0 a2).bind fun t364 => (if t364 = true then ((spec_l1Has.f k l1 (wrap64 (-a2))).bind fun t365 => (spec_ResolveOn.j0 k l0 l1 a2 (!t365))) else (spec_ResolveOn.j0 k l0 l1 a2 true))) else (spec_ResolveOn.j0 k l0 l1 a2 true))) else (spec_ResolveOn.j0 k l0 l1 a2 true))) else (spec_ResolveOn.j0 k l0 l1 a2 true)) = some (r1, r2) := H
  have A5 := Aside0.mk A50
  clear A50
  by_cases c6 : t361 = true
  ·subst c6
   have H1 : ((spec_l6Clause.f k 400 l1).bind fun t362 => (if t362 = true then ((spec_l1In.f a2 1 400).bind fun t363 => (if t363 = true then ((spec_l1Has.f k l0 a2).bind fun t364 => (if t364 = true then ((spec_l1Has.f k l1 (wrap64 (-a2))).bind fun t365 => (spec_ResolveOn.j0 k l0 l1 a2 (!t365))) else (spec_ResolveOn.j0 k l0 l1 a2 true))) else (spec_ResolveOn.j0 k l0 l1 a2 true))) else (spec_ResolveOn.j0 k l0 l1 a2 true))) = some (r1, r2) := by rw [if_pos rfl] at H; exact H
   clear H
   have H := H1
   clear H1
   replace H := Option.bind_eq_some_iff.mp H
   obtain ⟨t362, A70, H⟩ := H
   replace H : (if t362 = true then ((spec_l1In.f a2 1 400).bind fun t363 => (if t363 = true then ((spec_l1Has.f k l0 a2).bind fun t364 => (if t364 = true then ((spec_l1Has.f k l1 (wrap64 (-a2))).bind fun t365 => (spec_ResolveOn.j0 k l0 l1 a2 (!t365))) else (spec_ResolveOn.j0 k l0 l1 a2 true))) else (spec_ResolveOn.j0 k l0 l1 a2 true))) else (spec_ResolveOn.j0 k l0 l1 a2 true)) = some (r1, r2) := H
   have A7 := Aside0.mk A70
   clear A70
   by_cases c8 : t362 = true
   ·subst c8
    have H1 : ((spec_l1In.f a2 1 400).bind fun t363 => (if t363 = true then ((spec_l1Has.f k l0 a2).bind fun t364 => (if t364 = true then ((spec_l1Has.f k l1 (wrap64 (-a2))).bind fun t365 => (spec_ResolveOn.j0 k l0 l1 a2 (!t365))) else (spec_ResolveOn.j0 k l0 l1 a2 true))) else (spec_ResolveOn.j0 k l0 l1 a2 true))) = some (r1, r2) := by rw [if_pos rfl] at H; exact H
    clear H
    have H := H1
    clear H1
    replace H := Option.bind_eq_some_iff.mp H
    obtain ⟨t363, A90, H⟩ := H
    replace H : (if t363 = true then ((spec_l1Has.f k l0 a2).bind fun t364 => (if t364 = true then ((spec_l1Has.f k l1 (wrap64 (-a2))).bind fun t365 => (spec_ResolveOn.j0 k l0 l1 a2 (!t365))) else (spec_ResolveOn.j0 k l0 l1 a2 true))) else (spec_ResolveOn.j0 k l0 l1 a2 true)) = some (r1, r2) := H
    have A9 := Aside0.mk A90
    clear A90
    by_cases c10 : t363 = true
    ·subst c10
     have H1 : ((spec_l1Has.f k l0 a2).bind fun t364 => (if t364 = true then ((spec_l1Has.f k l1 (wrap64 (-a2))).bind fun t365 => (spec_ResolveOn.j0 k l0 l1 a2 (!t365))) else (spec_ResolveOn.j0 k l0 l1 a2 true))) = some (r1, r2) := by rw [if_pos rfl] at H; exact H
     clear H
     have H := H1
     clear H1
     replace H := Option.bind_eq_some_iff.mp H
     obtain ⟨t364, A110, H⟩ := H
     replace H : (if t364 = true then ((spec_l1Has.f k l1 (wrap64 (-a2))).bind fun t365 => (spec_ResolveOn.j0 k l0 l1 a2 (!t365))) else (spec_ResolveOn.j0 k l0 l1 a2 true)) = some (r1, r2) := H
     have A11 := Aside0.mk A110
     clear A110
     by_cases c12 : t364 = true
     ·subst c12
      have H1 : ((spec_l1Has.f k l1 (wrap64 (-a2))).bind fun t365 => (spec_ResolveOn.j0 k l0 l1 a2 (!t365))) = some (r1, r2) := by rw [if_pos rfl] at H; exact H
      clear H
      have H := H1
      clear H1
      replace H := Option.bind_eq_some_iff.mp H
      obtain ⟨t365, A130, H⟩ := H
      replace H : (spec_ResolveOn.j0 k l0 l1 a2 (!t365)) = some (r1, r2) := H
      have A13 := Aside0.mk A130
      clear A130
      have H' := Aside0.mk H
      clear H
      go_wp2_with (first | ((with_reducible refine gate_callee (f := 35) rfl ?_); refine goesL_ (some 13) rfl rfl Try.func35 (by kernel_rfl) rfl #[.int .i64 400, .slice A0 l0.length c0] rfl qG ?_; (with_reducible refine (spec_l6Clause.calls k 400 _ _ l0 true _ ?side1 ?side2 A5.out).mono ?_); (case side1 => exact qC (Kd.C_below HR0.out HB.out)); (case side2 => exact HC0.out); rintro e w' ⟨rfl, ⟨nd, rfl⟩⟩; refine ⟨_, rfl, ?_⟩) | (go_at_call 35; (with_reducible refine (spec_l6Clause.calls k 400 _ _ l1 true _ ?side1 ?side2 A7.out).mono ?_); (case side1 => repeat (first | exact (Kd.C_below HR1.out (qB)) | (with_reducible refine Kd.C_alloc ?_ _) | (with_reducible refine Kd.C_drewN ?_ _) | (with_reducible refine Kd.C_drew ?_))); (case side2 => exact HC1.out); rintro e w' ⟨rfl, ⟨nd, rfl⟩⟩) | (go_at_call 34; (with_reducible refine (spec_l1In.calls a2 1 400 true _ A9.out).mono ?_); rintro e w' ⟨rfl, ⟨nd, rfl⟩⟩) | (go_at_call 52; (with_reducible refine (spec_l1Has.calls k _ _ l0 a2 true _ ?side1 ?side2 A11.out).mono ?_); (case side1 => repeat (first | exact (Kd.C_below HR0.out (qB)) | (with_reducible refine Kd.C_alloc ?_ _) | (with_reducible refine Kd.C_drewN ?_ _) | (with_reducible refine Kd.C_drew ?_))); (case side2 => exact HC0.out); rintro e w14 ⟨rfl, hb⟩; have n0_ := Aside0.mk (below_step (qB) hb); clear HB; have HB := n0_; clear n0_; (try clear hb); (try clear hb2); (try clear hk); (try clear hi)) | (go_at_call 52; (with_reducible refine (spec_l1Has.calls k _ _ l1 (wrap64 (-a2)) t365 _ ?side1 ?side2 A13.out).mono ?_); (case side1 => exact qC (Kd.C_below HR1.out HB.out)); (case side2 => exact HC1.out); rintro e w15 ⟨rfl, hb⟩; have n0_ := Aside0.mk (below_step (qB) hb); clear HB; have HB := n0_; clear n0_; (try clear hb); (try clear hb2); (try clear hk); (try clear hi)))
      go_meet
      case rel => exact ⟨_, (!t365), qS, H', ⟨by first | omega | exact Nat.le_refl _⟩, ⟨qB⟩⟩
     ·replace c12 := Bool.eq_false_iff.mpr c12
      subst c12
      have H1 : (spec_ResolveOn.j0 k l0 l1 a2 true) = some (r1, r2) := by rw [if_neg (show ¬ (false = true) by decide)] at H; exact H
      clear H
      have H := H1
      clear H1
      have H' := Aside0.mk H
      clear H
      go_wp2_with (first | ((with_reducible refine gate_callee (f := 35) rfl ?_); refine goesL_ (some 13) rfl rfl Try.func35 (by kernel_rfl) rfl #[.int .i64 400, .slice A0 l0.length c0] rfl qG ?_; (with_reducible refine (spec_l6Clause.calls k 400 _ _ l0 true _ ?side1 ?side2 A5.out).mono ?_); (case side1 => exact qC (Kd.C_below HR0.out HB.out)); (case side2 => exact HC0.out); rintro e w' ⟨rfl, ⟨nd, rfl⟩⟩; refine ⟨_, rfl, ?_⟩) | (go_at_call 35; (with_reducible refine (spec_l6Clause.calls k 400 _ _ l1 true _ ?side1 ?side2 A7.out).mono ?_); (case side1 => repeat (first | exact (Kd.C_below HR1.out (qB)) | (with_reducible refine Kd.C_alloc ?_ _) | (with_reducible refine Kd.C_drewN ?_ _) | (with_reducible refine Kd.C_drew ?_))); (case side2 => exact HC1.out); rintro e w' ⟨rfl, ⟨nd, rfl⟩⟩) | (go_at_call 34; (with_reducible refine (spec_l1In.calls a2 1 400 true _ A9.out).mono ?_); rintro e w' ⟨rfl, ⟨nd, rfl⟩⟩) | (go_at_call 52; (with_reducible refine (spec_l1Has.calls k _ _ l0 a2 false _ ?side1 ?side2 A11.out).mono ?_); (case side1 => repeat (first | exact (Kd.C_below HR0.out (qB)) | (with_reducible refine Kd.C_alloc ?_ _) | (with_reducible refine Kd.C_drewN ?_ _) | (with_reducible refine Kd.C_drew ?_))); (case side2 => exact HC0.out); rintro e w16 ⟨rfl, hb⟩; have n0_ := Aside0.mk (below_step (qB) hb); clear HB; have HB := n0_; clear n0_; (try clear hb); (try clear hb2); (try clear hk); (try clear hi)))
      go_meet
      case rel => exact ⟨_, (true), qS, H', ⟨by first | omega | exact Nat.le_refl _⟩, ⟨qB⟩⟩
    ·replace c10 := Bool.eq_false_iff.mpr c10
     subst c10
     have H1 : (spec_ResolveOn.j0 k l0 l1 a2 true) = some (r1, r2) := by rw [if_neg (show ¬ (false = true) by decide)] at H; exact H
     clear H
     have H := H1
     clear H1
     have H' := Aside0.mk H
     clear H
     go_wp2_with (first | ((with_reducible refine gate_callee (f := 35) rfl ?_); refine goesL_ (some 13) rfl rfl Try.func35 (by kernel_rfl) rfl #[.int .i64 400, .slice A0 l0.length c0] rfl qG ?_; (with_reducible refine (spec_l6Clause.calls k 400 _ _ l0 true _ ?side1 ?side2 A5.out).mono ?_); (case side1 => exact qC (Kd.C_below HR0.out HB.out)); (case side2 => exact HC0.out); rintro e w' ⟨rfl, ⟨nd, rfl⟩⟩; refine ⟨_, rfl, ?_⟩) | (go_at_call 35; (with_reducible refine (spec_l6Clause.calls k 400 _ _ l1 true _ ?side1 ?side2 A7.out).mono ?_); (case side1 => repeat (first | exact (Kd.C_below HR1.out (qB)) | (with_reducible refine Kd.C_alloc ?_ _) | (with_reducible refine Kd.C_drewN ?_ _) | (with_reducible refine Kd.C_drew ?_))); (case side2 => exact HC1.out); rintro e w' ⟨rfl, ⟨nd, rfl⟩⟩) | (go_at_call 34; (with_reducible refine (spec_l1In.calls a2 1 400 false _ A9.out).mono ?_); rintro e w' ⟨rfl, ⟨nd, rfl⟩⟩))
     go_meet
     case rel => exact ⟨_, (true), qS, H', ⟨by first | omega | exact Nat.le_refl _⟩, ⟨qB⟩⟩
   ·replace c8 := Bool.eq_false_iff.mpr c8
    subst c8
    have H1 : (spec_ResolveOn.j0 k l0 l1 a2 true) = some (r1, r2) := by rw [if_neg (show ¬ (false = true) by decide)] at H; exact H
    clear H
    have H := H1
    clear H1
    have H' := Aside0.mk H
    clear H
    go_wp2_with (first | ((with_reducible refine gate_callee (f := 35) rfl ?_); refine goesL_ (some 13) rfl rfl Try.func35 (by kernel_rfl) rfl #[.int .i64 400, .slice A0 l0.length c0] rfl qG ?_; (with_reducible refine (spec_l6Clause.calls k 400 _ _ l0 true _ ?side1 ?side2 A5.out).mono ?_); (case side1 => exact qC (Kd.C_below HR0.out HB.out)); (case side2 => exact HC0.out); rintro e w' ⟨rfl, ⟨nd, rfl⟩⟩; refine ⟨_, rfl, ?_⟩) | (go_at_call 35; (with_reducible refine (spec_l6Clause.calls k 400 _ _ l1 false _ ?side1 ?side2 A7.out).mono ?_); (case side1 => repeat (first | exact (Kd.C_below HR1.out (qB)) | (with_reducible refine Kd.C_alloc ?_ _) | (with_reducible refine Kd.C_drewN ?_ _) | (with_reducible refine Kd.C_drew ?_))); (case side2 => exact HC1.out); rintro e w' ⟨rfl, ⟨nd, rfl⟩⟩))
    go_meet
    case rel => exact ⟨_, (true), qS, H', ⟨by first | omega | exact Nat.le_refl _⟩, ⟨qB⟩⟩
  ·replace c6 := Bool.eq_false_iff.mpr c6
   subst c6
   have H1 : (spec_ResolveOn.j0 k l0 l1 a2 true) = some (r1, r2) := by rw [if_neg (show ¬ (false = true) by decide)] at H; exact H
   clear H
   have H := H1
   clear H1
   have H' := Aside0.mk H
   clear H
   go_wp2_with (first | ((with_reducible refine gate_callee (f := 35) rfl ?_); refine goesL_ (some 13) rfl rfl Try.func35 (by kernel_rfl) rfl #[.int .i64 400, .slice A0 l0.length c0] rfl qG ?_; (with_reducible refine (spec_l6Clause.calls k 400 _ _ l0 false _ ?side1 ?side2 A5.out).mono ?_); (case side1 => exact qC (Kd.C_below HR0.out HB.out)); (case side2 => exact HC0.out); rintro e w' ⟨rfl, ⟨nd, rfl⟩⟩; refine ⟨_, rfl, ?_⟩))
   go_meet
   case rel => exact ⟨_, (true), qS, H', ⟨by first | omega | exact Nat.le_refl _⟩, ⟨qB⟩⟩
 case rest =>
  clear HC4
  try clear c1
  try clear p2
  try clear c3
  try clear c6
  try clear p6
  try clear c8
  try clear c10
  try clear c12
  obtain ⟨kq, x37_3, rfl, HA, HJ3, HB⟩ := hcut
  cases kq with
  | zero => exact absurd HA.out (by simp [spec_ResolveOn.j0])
  | succ kj3 =>
   have H := HA.out
   clear HA
   simp only [spec_ResolveOn.j0] at H
   by_cases c17 : x37_3 = true
   ·subst c17
    have H1 : (some (([] : List Int), false)) = some (r1, r2) := by rw [if_pos rfl] at H; exact H
    clear H
    have H := H1
    clear H1
    simp only [Option.some.injEq, Prod.mk.injEq] at H
    obtain ⟨rfl, rfl⟩ := H
    go_wp2
    go_ret2
    exact ⟨_, qE, by first | exact Kd.R_nil _ _ _ _ _ | exact Kd.N_nil _ _ _ _ _ | exact Kd.V_nil _ _ _ _ _ | exact Kd.Q_nil _ _ _ _ _ | exact Kd.S_nil _ _ _ _ _, qB⟩
   ·replace c17 := Bool.eq_false_iff.mpr c17
    subst c17
    have H1 : (spec_ResolveOn.l0 kj3 l0 l1 a2 ([] : List Int) 1) = some (r1, r2) := by rw [if_neg (show ¬ (false = true) by decide)] at H; exact H
    clear H
    have H := H1
    clear H1
    have H' := Aside0.mk H
    clear H
    go_wp2
    go_loopg [8, 9] kj3 (fun kq v8 v9 w' => ∃ (x8_2 : List Int) (x9_2 : Int), v9 = .int .i64 x9_2 ∧ Aside0 (spec_ResolveOn.l0 kq l0 l1 a2 x8_2 x9_2 = some (r1, r2)) ∧ Aside0 (kq ≤ kj3) ∧ Aside0 (Kd.R (Kd.int .i64) 3 w' w.heap.size (fun _ => True) v8 x8_2) ∧ Aside0 (Below w.heap.size w w'))
    case atStart => exact ⟨(([] : List Int)), (1), qS, H', ⟨Nat.le_refl _⟩, ⟨by first | exact Kd.R_nil _ _ _ _ _ | exact Kd.N_nil _ _ _ _ _ | exact Kd.V_nil _ _ _ _ _ | exact Kd.Q_nil _ _ _ _ _ | exact Kd.S_nil _ _ _ _ _⟩, ⟨qB⟩⟩
    case round =>
     clear H'
     try clear c1
     try clear p2
     try clear c3
     try clear c6
     try clear p6
     try clear c8
     try clear c10
     try clear c12
     try clear c17
     try clear p2
     try clear p6
     obtain ⟨x8_2, x9_2, rfl, HA, HK2, HO_8, HB⟩ := hrel
     cases gk with
     | zero => exact absurd HA.out (by simp [spec_ResolveOn.l0])
     | succ k2 =>
      have H := HA.out
      clear HA
      simp only [spec_ResolveOn.l0] at H
      by_cases c18 : x9_2 ≤ 400
      ·rw [if_pos c18] at H
       have c18b0 : decide (x9_2 ≤ 400) = true := decide_eq_true c18
       clear c18
       obtain ⟨y366, hy366⟩ : ∃ y_ : List Int, y_ = (([wrap64 (-x9_2), x9_2] : List Int)) := ⟨_, rfl⟩
       replace H : (spec_ResolveOn.l1 k2 l0 l1 a2 x8_2 x9_2 y366 (y366.length : Int) 0) = some (r1, r2) := qY hy366 H
       have Ny366 := Aside0.mk hy366
       clear hy366
       have H' := Aside0.mk H
       clear H
       go_wp2_with (first | ((with_reducible refine gate_dst (N := 45) rfl ?_); refine Kd.R_lit (Kd.int .i64) _ 3 ?hg (N := 45) ?hd (xs := ([wrap64 (-x9_2), x9_2] : List Int)) (inner := [.int .i64 (wrap64 (-x9_2)), .int .i64 x9_2]) (ok := fun _ => True) (okp := fun _ => True) ?hr ?hp (fun _ hk => hk) trivial (Below.refl _ _) (Nat.le_refl _) (by simp) ?_; (case hd => rfl); (case hg => rfl); (case hr => first | (go_simp; done) | (go_simp; rfl)); (case hp => exact (Reps.one (show Kd.M (Kd.int .i64) _ _ _ (wrap64 (-x9_2)) [.int .i64 (wrap64 (-x9_2))] from rfl) (Reps.one (show Kd.M (Kd.int .i64) _ _ _ x9_2 [.int .i64 x9_2] from rfl) (Reps.none _ _)))); intro v367 w19 ho20 hb hg_ hnew_; clear hg_ hnew_; (first | rw [← Ny366.out] at ho20 | (simp only [Int.reduceToNat] at ho20; rw [← Ny366.out] at ho20)); have n0_ := Aside0.mk (Kd.R_elder' (qR HO_8.out) (Kd.R_base ho20) hb); have n1_ := Aside0.mk (Kd.R_lower (Kd.R_new' ho20 (Kd.R_lt (qR HO_8.out))) (below_size (qB))); have n2_ := Aside0.mk (below_step (qB) hb); clear HO_8; clear HB; have HO_8 := n0_; have HO368 := n1_; have HB := n2_; clear n0_ n1_ n2_; clear hb ho20; obtain ⟨Ao21, co21, eo21⟩ := Kd.R_slice HO368.out; subst eo21))
       go_loopg [8, 47] k2 (fun kq v8 v47 w' => ∃ (x8_3 : List Int) (x47_3 : Int), v47 = .int .i64 x47_3 ∧ Aside0 (spec_ResolveOn.l1 kq l0 l1 a2 x8_3 x9_2 y366 (y366.length : Int) x47_3 = some (r1, r2)) ∧ Aside0 (kq ≤ k2) ∧ Aside0 (Kd.R (Kd.int .i64) 3 w' w.heap.size (fun k_ => some k_ ≠ ((.slice Ao21 y366.length co21) : Value).ownBlock) v8 x8_3) ∧ Aside0 (Kd.R (Kd.int .i64) 3 w' w.heap.size (fun k_ => some k_ ≠ (v8 : Value).ownBlock) (.slice Ao21 y366.length co21) y366) ∧ Aside0 (Below w.heap.size w w'))
       case atStart => exact ⟨(x8_2), (0), qS, H', ⟨Nat.le_refl _⟩, ⟨by (with_reducible repeat (first | apply Kd.R_alloc | apply Kd.R_drewN | apply Kd.R_drew)); exact Kd.R_mono HO_8.out (fun _ hk => hk.2)⟩, ⟨by (with_reducible repeat (first | apply Kd.R_alloc | apply Kd.R_drewN | apply Kd.R_drew)); exact Kd.R_mono HO368.out (fun _ hk => hk.2)⟩, ⟨qB⟩⟩
       case round =>
        clear H'
        try clear c1
        try clear p2
        try clear c3
        try clear c6
        try clear p6
        try clear c8
        try clear c10
        try clear c12
        try clear c17
        try clear c18
        try clear c18b0
        try clear p2
        try clear p6
        obtain ⟨x8_3, x47_3, rfl, HA, HK3, HO_8, HO_45, HB⟩ := hrel
        cases gk with
        | zero => exact absurd HA.out (by simp [spec_ResolveOn.l1])
        | succ k3 =>
         have H := HA.out
         clear HA
         simp only [spec_ResolveOn.l1] at H
         by_cases c22 : x47_3 < (y366.length : Int)
         ·rw [if_pos c22] at H
          have c22b0 : decide (x47_3 < (y366.length : Int)) = true := decide_eq_true c22
          clear c22
          by_cases c23 : 0 ≤ x47_3
          ·rw [if_pos c23] at H
           have c23b0 : decide (0 ≤ x47_3) = true := decide_eq_true c23
           clear c23
           by_cases c24 : x47_3 < (y366.length : Int)
           ·rw [if_pos c24] at H
            have c24b0 : decide (x47_3 < (y366.length : Int)) = true := decide_eq_true c24
            clear c24
            replace H := Option.bind_eq_some_iff.mp H
            obtain ⟨t370, A250, H⟩ := H
            replace H : (if t370 = true then (if (rd y366 x47_3) = a2 then ((spec_l1Has.f k3 l1 (rd y366 x47_3)).bind fun t371 => (if t371 = true then (if (rd y366 x47_3) = (wrap64 (-a2)) then (spec_ResolveOn.l1 k3 l0 l1 a2 x8_3 x9_2 y366 (y366.length : Int) (wrap64 (x47_3 + 1))) else (if x8_3.length < 17592186044416 then (spec_ResolveOn.l1 k3 l0 l1 a2 (x8_3 ++ [rd y366 x47_3]) x9_2 y366 (y366.length : Int) (wrap64 (x47_3 + 1))) else (none))) else (spec_ResolveOn.l1 k3 l0 l1 a2 x8_3 x9_2 y366 (y366.length : Int) (wrap64 (x47_3 + 1))))) else (if x8_3.length < 17592186044416 then (spec_ResolveOn.l1 k3 l0 l1 a2 (x8_3 ++ [rd y366 x47_3]) x9_2 y366 (y366.length : Int) (wrap64 (x47_3 + 1))) else (none))) else ((spec_l1Has.f k3 l1 (rd y366 x47_3)).bind fun t378 => (if t378 = true then (if (rd y366 x47_3) = (wrap64 (-a2)) then (spec_ResolveOn.l1 k3 l0 l1 a2 x8_3 x9_2 y366 (y366.length : Int) (wrap64 (x47_3 + 1))) else (if x8_3.length < 17592186044416 then (spec_ResolveOn.l1 k3 l0 l1 a2 (x8_3 ++ [rd y366 x47_3]) x9_2 y366 (y366.length : Int) (wrap64 (x47_3 + 1))) else (none))) else (spec_ResolveOn.l1 k3 l0 l1 a2 x8_3 x9_2 y366 (y366.length : Int) (wrap64 (x47_3 + 1)))))) = some (r1, r2) := H
            have A25 := Aside0.mk A250
            clear A250
            by_cases c26 : t370 = true
            ·subst c26
             have H1 : (if (rd y366 x47_3) = a2 then ((spec_l1Has.f k3 l1 (rd y366 x47_3)).bind fun t371 => (if t371 = true then (if (rd y366 x47_3) = (wrap64 (-a2)) then (spec_ResolveOn.l1 k3 l0 l1 a2 x8_3 x9_2 y366 (y366.length : Int) (wrap64 (x47_3 + 1))) else (if x8_3.length < 17592186044416 then (spec_ResolveOn.l1 k3 l0 l1 a2 (x8_3 ++ [rd y366 x47_3]) x9_2 y366 (y366.length : Int) (wrap64 (x47_3 + 1))) else (none))) else (spec_ResolveOn.l1 k3 l0 l1 a2 x8_3 x9_2 y366 (y366.length : Int) (wrap64 (x47_3 + 1))))) else (if x8_3.length < 17592186044416 then (spec_ResolveOn.l1 k3 l0 l1 a2 (x8_3 ++ [rd y366 x47_3]) x9_2 y366 (y366.length : Int) (wrap64 (x47_3 + 1))) else (none))) = some (r1, r2) := by rw [if_pos rfl] at H; exact H
             clear H
             have H := H1
             clear H1
             by_cases c27 : (rd y366 x47_3) = a2
             ·rw [if_pos c27] at H
              have c27b0 : ((rd y366 x47_3) == a2) = true := beq_iff_eq.mpr c27
              have c27b1 : ((rd y366 x47_3) != a2) = false := bne_eq_false_iff_eq.mpr c27
              clear c27
              replace H := Option.bind_eq_some_iff.mp H
              obtain ⟨t371, A280, H⟩ := H
              replace H : (if t371 = true then (if (rd y366 x47_3) = (wrap64 (-a2)) then (spec_ResolveOn.l1 k3 l0 l1 a2 x8_3 x9_2 y366 (y366.length : Int) (wrap64 (x47_3 + 1))) else (if x8_3.length < 17592186044416 then (spec_ResolveOn.l1 k3 l0 l1 a2 (x8_3 ++ [rd y366 x47_3]) x9_2 y366 (y366.length : Int) (wrap64 (x47_3 + 1))) else (none))) else (spec_ResolveOn.l1 k3 l0 l1 a2 x8_3 x9_2 y366 (y366.length : Int) (wrap64 (x47_3 + 1)))) = some (r1, r2) := H
              have A28 := Aside0.mk A280
              clear A280
              by_cases c29 : t371 = true
              ·subst c29
               have H1 : (if (rd y366 x47_3) = (wrap64 (-a2)) then (spec_ResolveOn.l1 k3 l0 l1 a2 x8_3 x9_2 y366 (y366.length : Int) (wrap64 (x47_3 + 1))) else (if x8_3.length < 17592186044416 then (spec_ResolveOn.l1 k3 l0 l1 a2 (x8_3 ++ [rd y366 x47_3]) x9_2 y366 (y366.length : Int) (wrap64 (x47_3 + 1))) else (none))) = some (r1, r2) := by rw [if_pos rfl] at H; exact H
               clear H
               have H := H1
               clear H1
               by_cases c30 : (rd y366 x47_3) = (wrap64 (-a2))
               ·rw [if_pos c30] at H
                have c30b0 : ((rd y366 x47_3) == (wrap64 (-a2))) = true := beq_iff_eq.mpr c30
                have c30b1 : ((rd y366 x47_3) != (wrap64 (-a2))) = false := bne_eq_false_iff_eq.mpr c30
                clear c30
                have H' := Aside0.mk H
                clear H
                have p369 : 0 ≤ (x47_3 : Int) := qD
                have q369 : x47_3 < (y366.length : Int) := qD
                obtain ⟨ad369, e369, hx369_0⟩ := Kd.at_int (Kd.R_reads' HO_45.out).2.2 x47_3 p369 q369
                cases e369
                replace p369 := eq_true p369
                replace q369 := eq_true q369
                go_wp2_with (first | ((with_reducible refine gate_callee (f := 52) rfl ?_); refine goesL_ (some 53) rfl rfl Try.func52 (by kernel_rfl) rfl #[.slice A0 l0.length c0, .int .i64 (rd y366 x47_3)] rfl qG ?_; (with_reducible refine (spec_l1Has.calls k3 _ _ l0 (rd y366 x47_3) true _ ?side1 ?side2 A25.out).mono ?_); (case side1 => exact qC (Kd.C_below HR0.out HB.out)); (case side2 => exact HC0.out); rintro e w31 ⟨rfl, hb⟩; refine ⟨_, rfl, ?_⟩; have n0_ := Aside0.mk (Kd.R_below (qR HO_8.out) hb); have n1_ := Aside0.mk (Kd.R_below (qR HO_45.out) hb); have n2_ := Aside0.mk (below_step (qB) hb); clear HO_8; clear HO_45; clear HB; have HO_8 := n0_; have HO_45 := n1_; have HB := n2_; clear n0_ n1_ n2_; (try clear hb); (try clear hb2); (try clear hk); (try clear hi)) | (go_at_call 52; (with_reducible refine (spec_l1Has.calls k3 _ _ l1 (rd y366 x47_3) true _ ?side1 ?side2 A28.out).mono ?_); (case side1 => exact qC (Kd.C_below HR1.out HB.out)); (case side2 => exact HC1.out); rintro e w32 ⟨rfl, hb⟩; have n0_ := Aside0.mk (Kd.R_below (qR HO_8.out) hb); have n1_ := Aside0.mk (Kd.R_below (qR HO_45.out) hb); have n2_ := Aside0.mk (below_step (qB) hb); clear HO_8; clear HO_45; clear HB; have HO_8 := n0_; have HO_45 := n1_; have HB := n2_; clear n0_ n1_ n2_; (try clear hb); (try clear hb2); (try clear hk); (try clear hi)))
                go_roundg k3
                case measure => have := HJ3.out; have := HK2.out; have := HK3.out; omega
                case rel => exact ⟨(x8_3), (wrap64 (x47_3 + 1)), qS, H', ⟨by have := HJ3.out; have := HK2.out; have := HK3.out; omega⟩, ⟨qR HO_8.out⟩, ⟨qR HO_45.out⟩, ⟨qB⟩⟩
               ·rw [if_neg c30] at H
                have c30b0 : ((rd y366 x47_3) == (wrap64 (-a2))) = false := beq_eq_false_iff_ne.mpr c30
                have c30b1 : ((rd y366 x47_3) != (wrap64 (-a2))) = true := bne_iff_ne.mpr c30
                by_cases c33 : x8_3.length < 17592186044416
                ·rw [if_pos c33] at H
                 have LMc33 := Aside0.mk c33
                 clear c33
                 obtain ⟨y372, hy372⟩ : ∃ y_ : List Int, y_ = (x8_3 ++ [rd y366 x47_3]) := ⟨_, rfl⟩
                 replace H : (spec_ResolveOn.l1 k3 l0 l1 a2 y372 x9_2 y366 (y366.length : Int) (wrap64 (x47_3 + 1))) = some (r1, r2) := qY hy372 H
                 have Ny372 := Aside0.mk hy372
                 clear hy372
                 have H' := Aside0.mk H
                 clear H
                 have p369 : 0 ≤ (x47_3 : Int) := qD
                 have q369 : x47_3 < (y366.length : Int) := qD
                 obtain ⟨ad369, e369, hx369_0⟩ := Kd.at_int (Kd.R_reads' HO_45.out).2.2 x47_3 p369 q369
                 cases e369
                 replace p369 := eq_true p369
                 replace q369 := eq_true q369
                 go_wp2_with (first | ((with_reducible refine gate_callee (f := 52) rfl ?_); refine goesL_ (some 53) rfl rfl Try.func52 (by kernel_rfl) rfl #[.slice A0 l0.length c0, .int .i64 (rd y366 x47_3)] rfl qG ?_; (with_reducible refine (spec_l1Has.calls k3 _ _ l0 (rd y366 x47_3) true _ ?side1 ?side2 A25.out).mono ?_); (case side1 => exact qC (Kd.C_below HR0.out HB.out)); (case side2 => exact HC0.out); rintro e w34 ⟨rfl, hb⟩; refine ⟨_, rfl, ?_⟩; have n0_ := Aside0.mk (Kd.R_below (qR HO_8.out) hb); have n1_ := Aside0.mk (Kd.R_below (qR HO_45.out) hb); have n2_ := Aside0.mk (below_step (qB) hb); clear HO_8; clear HO_45; clear HB; have HO_8 := n0_; have HO_45 := n1_; have HB := n2_; clear n0_ n1_ n2_; (try clear hb); (try clear hb2); (try clear hk); (try clear hi)) | (go_at_call 52; (with_reducible refine (spec_l1Has.calls k3 _ _ l1 (rd y366 x47_3) true _ ?side1 ?side2 A28.out).mono ?_); (case side1 => exact qC (Kd.C_below HR1.out HB.out)); (case side2 => exact HC1.out); rintro e w35 ⟨rfl, hb⟩; have n0_ := Aside0.mk (Kd.R_below (qR HO_8.out) hb); have n1_ := Aside0.mk (Kd.R_below (qR HO_45.out) hb); have n2_ := Aside0.mk (below_step (qB) hb); clear HO_8; clear HO_45; clear HB; have HO_8 := n0_; have HO_45 := n1_; have HB := n2_; clear n0_ n1_ n2_; (try clear hb); (try clear hb2); (try clear hk); (try clear hi)) | ((with_reducible refine gate_builtin (b := .append) (xs := #[.tmp 70, .tmp 72]) rfl ?_); at_builtin; refine Kd.R_append (Kd.int .i64) (w0 := w) w.heap.size rfl (.tmp 70) (.tmp 72) 39 3 (.int .i64 0) 8 rfl Try.underlying39 info3 rfl (by decide) (by omega) u8 x8_3 (rd y366 x47_3) [.int .i64 (rd y366 x47_3)] (fun k_ => some k_ ≠ (.slice (some ad369) y366.length co21 : Value).ownBlock) (fun _ => False) rfl rfl ?aP (fun _ hk => hk.elim) ?aF ?aO ?aB ?aS ?aL ?_; (case aP => exact rfl); (case aB => exact (qB)); (case aF => exact (fun k_ hk => Kd.fresh' (Kd.R_lt (qR HO_45.out)) k_ hk)); (case aO => exact (qR HO_8.out)); (case aS => exact (below_size (qB))); (case aL => have := LMc33.out; omega); intro v373 w36 ho hb hg hat; rw [← Ny372.out] at ho; have n0_ := Aside0.mk (Kd.R_after (ok := (fun _ => True)) (by (with_reducible repeat (first | apply Kd.R_alloc | apply Kd.R_drewN | apply Kd.R_drew)); exact Kd.R_mono HO_45.out (fun _ hk => ⟨trivial, hk⟩)) hg hat); have n1_ := Aside0.mk (hb); have n2_ := Aside0.mk (ho); clear HO_45; clear HB; clear HO_8; have HO_45 := n0_; have HB := n1_; have HO374 := n2_; clear n0_ n1_ n2_; clear ho hb hg hat))
                 go_roundg k3
                 case measure => have := HJ3.out; have := HK2.out; have := HK3.out; omega
                 case rel => exact ⟨(y372), (wrap64 (x47_3 + 1)), qS, H', ⟨by have := HJ3.out; have := HK2.out; have := HK3.out; omega⟩, ⟨qR HO374.out⟩, ⟨by (with_reducible repeat (first | apply Kd.R_alloc | apply Kd.R_drewN | apply Kd.R_drew)); exact Kd.R_mono HO_45.out (fun _ hk => hk.2)⟩, ⟨qB⟩⟩
                ·rw [if_neg c33] at H
                 exact absurd H (by simp)
              ·replace c29 := Bool.eq_false_iff.mpr c29
               subst c29
               have H1 : (spec_ResolveOn.l1 k3 l0 l1 a2 x8_3 x9_2 y366 (y366.length : Int) (wrap64 (x47_3 + 1))) = some (r1, r2) := by rw [if_neg (show ¬ (false = true) by decide)] at H; exact H
               clear H
               have H := H1
               clear H1
               have H' := Aside0.mk H
               clear H
               have p369 : 0 ≤ (x47_3 : Int) := qD
               have q369 : x47_3 < (y366.length : Int) := qD
               obtain ⟨ad369, e369, hx369_0⟩ := Kd.at_int (Kd.R_reads' HO_45.out).2.2 x47_3 p369 q369
               cases e369
               replace p369 := eq_true p369
               replace q369 := eq_true q369
               go_wp2_with (first | ((with_reducible refine gate_callee (f := 52) rfl ?_); refine goesL_ (some 53) rfl rfl Try.func52 (by kernel_rfl) rfl #[.slice A0 l0.length c0, .int .i64 (rd y366 x47_3)] rfl qG ?_; (with_reducible refine (spec_l1Has.calls k3 _ _ l0 (rd y366 x47_3) true _ ?side1 ?side2 A25.out).mono ?_); (case side1 => exact qC (Kd.C_below HR0.out HB.out)); (case side2 => exact HC0.out); rintro e w37 ⟨rfl, hb⟩; refine ⟨_, rfl, ?_⟩; have n0_ := Aside0.mk (Kd.R_below (qR HO_8.out) hb); have n1_ := Aside0.mk (Kd.R_below (qR HO_45.out) hb); have n2_ := Aside0.mk (below_step (qB) hb); clear HO_8; clear HO_45; clear HB; have HO_8 := n0_; have HO_45 := n1_; have HB := n2_; clear n0_ n1_ n2_; (try clear hb); (try clear hb2); (try clear hk); (try clear hi)) | (go_at_call 52; (with_reducible refine (spec_l1Has.calls k3 _ _ l1 (rd y366 x47_3) false _ ?side1 ?side2 A28.out).mono ?_); (case side1 => exact qC (Kd.C_below HR1.out HB.out)); (case side2 => exact HC1.out); rintro e w38 ⟨rfl, hb⟩; have n0_ := Aside0.mk (Kd.R_below (qR HO_8.out) hb); have n1_ := Aside0.mk (Kd.R_below (qR HO_45.out) hb); have n2_ := Aside0.mk (below_step (qB) hb); clear HO_8; clear HO_45; clear HB; have HO_8 := n0_; have HO_45 := n1_; have HB := n2_; clear n0_ n1_ n2_; (try clear hb); (try clear hb2); (try clear hk); (try clear hi)))
               go_roundg k3
               case measure => have := HJ3.out; have := HK2.out; have := HK3.out; omega
               case rel => exact ⟨(x8_3), (wrap64 (x47_3 + 1)), qS, H', ⟨by have := HJ3.out; have := HK2.out; have := HK3.out; omega⟩, ⟨qR HO_8.out⟩, ⟨qR HO_45.out⟩, ⟨qB⟩⟩
             ·rw [if_neg c27] at H
              have c27b0 : ((rd y366 x47_3) == a2) = false := beq_eq_false_iff_ne.mpr c27
              have c27b1 : ((rd y366 x47_3) != a2) = true := bne_iff_ne.mpr c27
              by_cases c39 : x8_3.length < 17592186044416
              ·rw [if_pos c39] at H
               have LMc39 := Aside0.mk c39
               clear c39
               obtain ⟨y375, hy375⟩ : ∃ y_ : List Int, y_ = (x8_3 ++ [rd y366 x47_3]) := ⟨_, rfl⟩
               replace H : (spec_ResolveOn.l1 k3 l0 l1 a2 y375 x9_2 y366 (y366.length : Int) (wrap64 (x47_3 + 1))) = some (r1, r2) := qY hy375 H
               have Ny375 := Aside0.mk hy375
               clear hy375
               have H' := Aside0.mk H
               clear H
               have p369 : 0 ≤ (x47_3 : Int) := qD
               have q369 : x47_3 < (y366.length : Int) := qD
               obtain ⟨ad369, e369, hx369_0⟩ := Kd.at_int (Kd.R_reads' HO_45.out).2.2 x47_3 p369 q369
               cases e369
               replace p369 := eq_true p369
               replace q369 := eq_true q369
               go_wp2_with (first | ((with_reducible refine gate_callee (f := 52) rfl ?_); refine goesL_ (some 53) rfl rfl Try.func52 (by kernel_rfl) rfl #[.slice A0 l0.length c0, .int .i64 (rd y366 x47_3)] rfl qG ?_; (with_reducible refine (spec_l1Has.calls k3 _ _ l0 (rd y366 x47_3) true _ ?side1 ?side2 A25.out).mono ?_); (case side1 => exact qC (Kd.C_below HR0.out HB.out)); (case side2 => exact HC0.out); rintro e w40 ⟨rfl, hb⟩; refine ⟨_, rfl, ?_⟩; have n0_ := Aside0.mk (Kd.R_below (qR HO_8.out) hb); have n1_ := Aside0.mk (Kd.R_below (qR HO_45.out) hb); have n2_ := Aside0.mk (below_step (qB) hb); clear HO_8; clear HO_45; clear HB; have HO_8 := n0_; have HO_45 := n1_; have HB := n2_; clear n0_ n1_ n2_; (try clear hb); (try clear hb2); (try clear hk); (try clear hi)) | ((with_reducible refine gate_builtin (b := .append) (xs := #[.tmp 70, .tmp 72]) rfl ?_); at_builtin; refine Kd.R_append (Kd.int .i64) (w0 := w) w.heap.size rfl (.tmp 70) (.tmp 72) 39 3 (.int .i64 0) 8 rfl Try.underlying39 info3 rfl (by decide) (by omega) u8 x8_3 (rd y366 x47_3) [.int .i64 (rd y366 x47_3)] (fun k_ => some k_ ≠ (.slice (some ad369) y366.length co21 : Value).ownBlock) (fun _ => False) rfl rfl ?aP (fun _ hk => hk.elim) ?aF ?aO ?aB ?aS ?aL ?_; (case aP => exact rfl); (case aB => exact (qB)); (case aF => exact (fun k_ hk => Kd.fresh' (Kd.R_lt (qR HO_45.out)) k_ hk)); (case aO => exact (qR HO_8.out)); (case aS => exact (below_size (qB))); (case aL => have := LMc39.out; omega); intro v376 w41 ho hb hg hat; rw [← Ny375.out] at ho; have n0_ := Aside0.mk (Kd.R_after (ok := (fun _ => True)) (by (with_reducible repeat (first | apply Kd.R_alloc | apply Kd.R_drewN | apply Kd.R_drew)); exact Kd.R_mono HO_45.out (fun _ hk => ⟨trivial, hk⟩)) hg hat); have n1_ := Aside0.mk (hb); have n2_ := Aside0.mk (ho); clear HO_45; clear HB; clear HO_8; have HO_45 := n0_; have HB := n1_; have HO377 := n2_; clear n0_ n1_ n2_; clear ho hb hg hat))
               go_roundg k3
               case measure => have := HJ3.out; have := HK2.out; have := HK3.out; omega
               case rel => exact ⟨(y375), (wrap64 (x47_3 + 1)), qS, H', ⟨by have := HJ3.out; have := HK2.out; have := HK3.out; omega⟩, ⟨qR HO377.out⟩, ⟨by (with_reducible repeat (first | apply Kd.R_alloc | apply Kd.R_drewN | apply Kd.R_drew)); exact Kd.R_mono HO_45.out (fun _ hk => hk.2)⟩, ⟨qB⟩⟩
              ·rw [if_neg c39] at H
               exact absurd H (by simp)
            ·replace c26 := Bool.eq_false_iff.mpr c26
             subst c26
             have H1 : ((spec_l1Has.f k3 l1 (rd y366 x47_3)).bind fun t378 => (if t378 = true then (if (rd y366 x47_3) = (wrap64 (-a2)) then (spec_ResolveOn.l1 k3 l0 l1 a2 x8_3 x9_2 y366 (y366.length : Int) (wrap64 (x47_3 + 1))) else (if x8_3.length < 17592186044416 then (spec_ResolveOn.l1 k3 l0 l1 a2 (x8_3 ++ [rd y366 x47_3]) x9_2 y366 (y366.length : Int) (wrap64 (x47_3 + 1))) else (none))) else (spec_ResolveOn.l1 k3 l0 l1 a2 x8_3 x9_2 y366 (y366.length : Int) (wrap64 (x47_3 + 1))))) = some (r1, r2) := by rw [if_neg (show ¬ (false = true) by decide)] at H; exact H
             clear H
             have H := H1
             clear H1
             replace H := Option.bind_eq_some_iff.mp H
             obtain ⟨t378, A420, H⟩ := H
             replace H : (if t378 = true then (if (rd y366 x47_3) = (wrap64 (-a2)) then (spec_ResolveOn.l1 k3 l0 l1 a2 x8_3 x9_2 y366 (y366.length : Int) (wrap64 (x47_3 + 1))) else (if x8_3.length < 17592186044416 then (spec_ResolveOn.l1 k3 l0 l1 a2 (x8_3 ++ [rd y366 x47_3]) x9_2 y366 (y366.length : Int) (wrap64 (x47_3 + 1))) else (none))) else (spec_ResolveOn.l1 k3 l0 l1 a2 x8_3 x9_2 y366 (y366.length : Int) (wrap64 (x47_3 + 1)))) = some (r1, r2) := H
             have A42 := Aside0.mk A420
             clear A420
             by_cases c43 : t378 = true
             ·subst c43
              have H1 : (if (rd y366 x47_3) = (wrap64 (-a2)) then (spec_ResolveOn.l1 k3 l0 l1 a2 x8_3 x9_2 y366 (y366.length : Int) (wrap64 (x47_3 + 1))) else (if x8_3.length < 17592186044416 then (spec_ResolveOn.l1 k3 l0 l1 a2 (x8_3 ++ [rd y366 x47_3]) x9_2 y366 (y366.length : Int) (wrap64 (x47_3 + 1))) else (none))) = some (r1, r2) := by rw [if_pos rfl] at H; exact H
              clear H
              have H := H1
              clear H1
              by_cases c44 : (rd y366 x47_3) = (wrap64 (-a2))
              ·rw [if_pos c44] at H
               have c44b0 : ((rd y366 x47_3) == (wrap64 (-a2))) = true := beq_iff_eq.mpr c44
               have c44b1 : ((rd y366 x47_3) != (wrap64 (-a2))) = false := bne_eq_false_iff_eq.mpr c44
               clear c44
               have H' := Aside0.mk H
               clear H
               have p369 : 0 ≤ (x47_3 : Int) := qD
               have q369 : x47_3 < (y366.length : Int) := qD
               obtain ⟨ad369, e369, hx369_0⟩ := Kd.at_int (Kd.R_reads' HO_45.out).2.2 x47_3 p369 q369
               cases e369
               replace p369 := eq_true p369
               replace q369 := eq_true q369
               go_wp2_with (first | ((with_reducible refine gate_callee (f := 52) rfl ?_); refine goesL_ (some 53) rfl rfl Try.func52 (by kernel_rfl) rfl #[.slice A0 l0.length c0, .int .i64 (rd y366 x47_3)] rfl qG ?_; (with_reducible refine (spec_l1Has.calls k3 _ _ l0 (rd y366 x47_3) false _ ?side1 ?side2 A25.out).mono ?_); (case side1 => exact qC (Kd.C_below HR0.out HB.out)); (case side2 => exact HC0.out); rintro e w45 ⟨rfl, hb⟩; refine ⟨_, rfl, ?_⟩; have n0_ := Aside0.mk (Kd.R_below (qR HO_8.out) hb); have n1_ := Aside0.mk (Kd.R_below (qR HO_45.out) hb); have n2_ := Aside0.mk (below_step (qB) hb); clear HO_8; clear HO_45; clear HB; have HO_8 := n0_; have HO_45 := n1_; have HB := n2_; clear n0_ n1_ n2_; (try clear hb); (try clear hb2); (try clear hk); (try clear hi)) | (go_at_call 52; (with_reducible refine (spec_l1Has.calls k3 _ _ l1 (rd y366 x47_3) true _ ?side1 ?side2 A42.out).mono ?_); (case side1 => exact qC (Kd.C_below HR1.out HB.out)); (case side2 => exact HC1.out); rintro e w46 ⟨rfl, hb⟩; have n0_ := Aside0.mk (Kd.R_below (qR HO_8.out) hb); have n1_ := Aside0.mk (Kd.R_below (qR HO_45.out) hb); have n2_ := Aside0.mk (below_step (qB) hb); clear HO_8; clear HO_45; clear HB; have HO_8 := n0_; have HO_45 := n1_; have HB := n2_; clear n0_ n1_ n2_; (try clear hb); (try clear hb2); (try clear hk); (try clear hi)))
               go_roundg k3
               case measure => have := HJ3.out; have := HK2.out; have := HK3.out; omega
               case rel => exact ⟨(x8_3), (wrap64 (x47_3 + 1)), qS, H', ⟨by have := HJ3.out; have := HK2.out; have := HK3.out; omega⟩, ⟨qR HO_8.out⟩, ⟨qR HO_45.out⟩, ⟨qB⟩⟩
              ·rw [if_neg c44] at H
               have c44b0 : ((rd y366 x47_3) == (wrap64 (-a2))) = false := beq_eq_false_iff_ne.mpr c44
               have c44b1 : ((rd y366 x47_3) != (wrap64 (-a2))) = true := bne_iff_ne.mpr c44
               by_cases c47 : x8_3.length < 17592186044416
               ·rw [if_pos c47] at H
                have LMc47 := Aside0.mk c47
                clear c47
                obtain ⟨y379, hy379⟩ : ∃ y_ : List Int, y_ = (x8_3 ++ [rd y366 x47_3]) := ⟨_, rfl⟩
                replace H : (spec_ResolveOn.l1 k3 l0 l1 a2 y379 x9_2 y366 (y366.length : Int) (wrap64 (x47_3 + 1))) = some (r1, r2) := qY hy379 H
                have Ny379 := Aside0.mk hy379
                clear hy379
                have H' := Aside0.mk H
                clear H
                have p369 : 0 ≤ (x47_3 : Int) := qD
                have q369 : x47_3 < (y366.length : Int) := qD
                obtain ⟨ad369, e369, hx369_0⟩ := Kd.at_int (Kd.R_reads' HO_45.out).2.2 x47_3 p369 q369
                cases e369
                replace p369 := eq_true p369
                replace q369 := eq_true q369
                go_wp2_with (first | ((with_reducible refine gate_callee (f := 52) rfl ?_); refine goesL_ (some 53) rfl rfl Try.func52 (by kernel_rfl) rfl #[.slice A0 l0.length c0, .int .i64 (rd y366 x47_3)] rfl qG ?_; (with_reducible refine (spec_l1Has.calls k3 _ _ l0 (rd y366 x47_3) false _ ?side1 ?side2 A25.out).mono ?_); (case side1 => exact qC (Kd.C_below HR0.out HB.out)); (case side2 => exact HC0.out); rintro e w48 ⟨rfl, hb⟩; refine ⟨_, rfl, ?_⟩; have n0_ := Aside0.mk (Kd.R_below (qR HO_8.out) hb); have n1_ := Aside0.mk (Kd.R_below (qR HO_45.out) hb); have n2_ := Aside0.mk (below_step (qB) hb); clear HO_8; clear HO_45; clear HB; have HO_8 := n0_; have HO_45 := n1_; have HB := n2_; clear n0_ n1_ n2_; (try clear hb); (try clear hb2); (try clear hk); (try clear hi)) | (go_at_call 52; (with_reducible refine (spec_l1Has.calls k3 _ _ l1 (rd y366 x47_3) true _ ?side1 ?side2 A42.out).mono ?_); (case side1 => exact qC (Kd.C_below HR1.out HB.out)); (case side2 => exact HC1.out); rintro e w49 ⟨rfl, hb⟩; have n0_ := Aside0.mk (Kd.R_below (qR HO_8.out) hb); have n1_ := Aside0.mk (Kd.R_below (qR HO_45.out) hb); have n2_ := Aside0.mk (below_step (qB) hb); clear HO_8; clear HO_45; clear HB; have HO_8 := n0_; have HO_45 := n1_; have HB := n2_; clear n0_ n1_ n2_; (try clear hb); (try clear hb2); (try clear hk); (try clear hi)) | ((with_reducible refine gate_builtin (b := .append) (xs := #[.tmp 70, .tmp 72]) rfl ?_); at_builtin; refine Kd.R_append (Kd.int .i64) (w0 := w) w.heap.size rfl (.tmp 70) (.tmp 72) 39 3 (.int .i64 0) 8 rfl Try.underlying39 info3 rfl (by decide) (by omega) u8 x8_3 (rd y366 x47_3) [.int .i64 (rd y366 x47_3)] (fun k_ => some k_ ≠ (.slice (some ad369) y366.length co21 : Value).ownBlock) (fun _ => False) rfl rfl ?aP (fun _ hk => hk.elim) ?aF ?aO ?aB ?aS ?aL ?_; (case aP => exact rfl); (case aB => exact (qB)); (case aF => exact (fun k_ hk => Kd.fresh' (Kd.R_lt (qR HO_45.out)) k_ hk)); (case aO => exact (qR HO_8.out)); (case aS => exact (below_size (qB))); (case aL => have := LMc47.out; omega); intro v380 w50 ho hb hg hat; rw [← Ny379.out] at ho; have n0_ := Aside0.mk (Kd.R_after (ok := (fun _ => True)) (by (with_reducible repeat (first | apply Kd.R_alloc | apply Kd.R_drewN | apply Kd.R_drew)); exact Kd.R_mono HO_45.out (fun _ hk => ⟨trivial, hk⟩)) hg hat); have n1_ := Aside0.mk (hb); have n2_ := Aside0.mk (ho); clear HO_45; clear HB; clear HO_8; have HO_45 := n0_; have HB := n1_; have HO381 := n2_; clear n0_ n1_ n2_; clear ho hb hg hat))
                go_roundg k3
                case measure => have := HJ3.out; have := HK2.out; have := HK3.out; omega
                case rel => exact ⟨(y379), (wrap64 (x47_3 + 1)), qS, H', ⟨by have := HJ3.out; have := HK2.out; have := HK3.out; omega⟩, ⟨qR HO381.out⟩, ⟨by (with_reducible repeat (first | apply Kd.R_alloc | apply Kd.R_drewN | apply Kd.R_drew)); exact Kd.R_mono HO_45.out (fun _ hk => hk.2)⟩, ⟨qB⟩⟩
               ·rw [if_neg c47] at H
                exact absurd H (by simp)
             ·replace c43 := Bool.eq_false_iff.mpr c43
              subst c43
              have H1 : (spec_ResolveOn.l1 k3 l0 l1 a2 x8_3 x9_2 y366 (y366.length : Int) (wrap64 (x47_3 + 1))) = some (r1, r2) := by rw [if_neg (show ¬ (false = true) by decide)] at H; exact H
              clear H
              have H := H1
              clear H1
              have H' := Aside0.mk H
              clear H
              have p369 : 0 ≤ (x47_3 : Int) := qD
              have q369 : x47_3 < (y366.length : Int) := qD
              obtain ⟨ad369, e369, hx369_0⟩ := Kd.at_int (Kd.R_reads' HO_45.out).2.2 x47_3 p369 q369
              cases e369
              replace p369 := eq_true p369
              replace q369 := eq_true q369
              go_wp2_with (first | ((with_reducible refine gate_callee (f := 52) rfl ?_); refine goesL_ (some 53) rfl rfl Try.func52 (by kernel_rfl) rfl #[.slice A0 l0.length c0, .int .i64 (rd y366 x47_3)] rfl qG ?_; (with_reducible refine (spec_l1Has.calls k3 _ _ l0 (rd y366 x47_3) false _ ?side1 ?side2 A25.out).mono ?_); (case side1 => exact qC (Kd.C_below HR0.out HB.out)); (case side2 => exact HC0.out); rintro e w51 ⟨rfl, hb⟩; refine ⟨_, rfl, ?_⟩; have n0_ := Aside0.mk (Kd.R_below (qR HO_8.out) hb); have n1_ := Aside0.mk (Kd.R_below (qR HO_45.out) hb); have n2_ := Aside0.mk (below_step (qB) hb); clear HO_8; clear HO_45; clear HB; have HO_8 := n0_; have HO_45 := n1_; have HB := n2_; clear n0_ n1_ n2_; (try clear hb); (try clear hb2); (try clear hk); (try clear hi)) | (go_at_call 52; (with_reducible refine (spec_l1Has.calls k3 _ _ l1 (rd y366 x47_3) false _ ?side1 ?side2 A42.out).mono ?_); (case side1 => exact qC (Kd.C_below HR1.out HB.out)); (case side2 => exact HC1.out); rintro e w52 ⟨rfl, hb⟩; have n0_ := Aside0.mk (Kd.R_below (qR HO_8.out) hb); have n1_ := Aside0.mk (Kd.R_below (qR HO_45.out) hb); have n2_ := Aside0.mk (below_step (qB) hb); clear HO_8; clear HO_45; clear HB; have HO_8 := n0_; have HO_45 := n1_; have HB := n2_; clear n0_ n1_ n2_; (try clear hb); (try clear hb2); (try clear hk); (try clear hi)))
              go_roundg k3
              case measure => have := HJ3.out; have := HK2.out; have := HK3.out; omega
              case rel => exact ⟨(x8_3), (wrap64 (x47_3 + 1)), qS, H', ⟨by have := HJ3.out; have := HK2.out; have := HK3.out; omega⟩, ⟨qR HO_8.out⟩, ⟨qR HO_45.out⟩, ⟨qB⟩⟩
           ·rw [if_neg c24] at H
            exact absurd H (by simp)
          ·rw [if_neg c23] at H
           exact absurd H (by simp)
         ·rw [if_neg c22] at H
          have c22b0 : decide (x47_3 < (y366.length : Int)) = false := decide_eq_false c22
          clear c22
          have H' := Aside0.mk H
          clear H
          go_wp2
          go_roundg k3
          case measure => have := HJ3.out; have := HK2.out; have := HK3.out; omega
          case rel => exact ⟨(x8_3), (wrap64 (x9_2 + 1)), qS, H', ⟨by have := HJ3.out; have := HK2.out; have := HK3.out; omega⟩, ⟨by (with_reducible repeat (first | apply Kd.R_alloc | apply Kd.R_drewN | apply Kd.R_drew)); exact Kd.R_mono HO_8.out (fun _ hk => trivial)⟩, ⟨qB⟩⟩
      ·rw [if_neg c18] at H
       have c18b0 : decide (x9_2 ≤ 400) = false := decide_eq_false c18
       clear c18
       by_cases c53 : (x8_2.length : Int) > 8
       ·rw [if_pos c53] at H
        have c53b0 : decide (8 < (x8_2.length : Int)) = true := decide_eq_true c53
        have c53b1 : decide (8 < x8_2.length) = true := decide_eq_true (by omega)
        clear c53
        simp only [Option.some.injEq, Prod.mk.injEq] at H
        obtain ⟨rfl, rfl⟩ := H
        obtain ⟨Ao54, co54, eo54⟩ := Kd.R_slice HO_8.out
        subst eo54
        go_wp2
        go_ret2
        exact ⟨_, qE, by first | exact Kd.R_nil _ _ _ _ _ | exact Kd.N_nil _ _ _ _ _ | exact Kd.V_nil _ _ _ _ _ | exact Kd.Q_nil _ _ _ _ _ | exact Kd.S_nil _ _ _ _ _, qB⟩
       ·rw [if_neg c53] at H
        have c53b0 : decide (8 < (x8_2.length : Int)) = false := decide_eq_false c53
        have c53b1 : decide (8 < x8_2.length) = false := decide_eq_false (by omega)
        clear c53
        simp only [Option.some.injEq, Prod.mk.injEq] at H
        obtain ⟨rfl, rfl⟩ := H
        obtain ⟨Ao55, co55, eo55⟩ := Kd.R_slice HO_8.out
        subst eo55
        go_wp2
        go_ret2
        exact ⟨_, qE, qR HO_8.out, qB⟩

end Go.Proofs.Ytdmngodinbelfaa.X
