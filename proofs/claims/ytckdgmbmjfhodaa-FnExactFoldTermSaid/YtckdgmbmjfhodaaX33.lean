/- Each Go function as a Lean function, with the proof that the call comes to just its answer; or a law's row out of its pure statement. Conditions: the arguments are of their kinds. Written by this session's program wip/xp/xp.sh. -/
import Derived.Test.YtckdgmbmjfhodaaX0
import Derived.Test.YtckdgmbmjfhodaaX1
import Derived.Test.YtckdgmbmjfhodaaX18
import Derived.Test.YtckdgmbmjfhodaaX22
import Derived.Test.YtckdgmbmjfhodaaX30
import Derived.Sort.OwnSortedInts
import Derived.Test.YtckdgmbmjfhodaaShelf
import Derived.Test.YtckdgmbmjfhodaaX7
import Derived.Test.YtckdgmbmjfhodaaX11
import Derived.Test.YtckdgmbmjfhodaaX28
namespace Go.Proofs.Ytckdgmbmjfhodaa.X
open Go.RowKit Go.Proofs.YtckdgmbmjfhodaaW.PrintWords Go.Proofs.YtckdgmbmjfhodaaW.PrintLast Go.Proofs.YtckdgmbmjfhodaaW.PrintMore
attribute [local go_sem] max2_int min2_int max_two min_two max_three min_three max_four min_four   -- for this text's walks alone
set_option linter.unusedVariables false
set_option linter.unusedSimpArgs false

/-! ### spec_l2Fold: function 40 -/
def spec_l2Fold.f : Nat → Int → List (S52) → Int → Option ((List (S52)))
  | 0, _, _, _ => none
  | k + 1, a0, l1, a2 => (spec_l2From.f k l1 a2).bind fun t450 => (if 0 ≤ t450 then (if t450 ≤ (wrap64 (a2 + 1)) then (if (wrap64 (a2 + 1)) ≤ (l1.length : Int) then ((spec_l2Vars.f k ((l1.take ((wrap64 (a2 + 1)) : Int).toNat).drop (t450 : Int).toNat)).bind fun t455 => (if (t455.length : Int) = 0 then (if 0 ≤ a2 then (if a2 < (l1.length : Int) then ((spec_l2Need.f k ((rd_T52 l1 a2).f0)).bind fun bt459 => (if bt459.2.2 = 2 then ((spec_l2Value.f k a0 l1 a2 ([] : List Int)).bind fun t462 => (some (([(⟨20, t462⟩ : S52)] : List (S52))))) else ((spec_l2Value.f k a0 l1 a2 ([] : List Int)).bind fun t466 => (some (([(⟨1, t466⟩ : S52)] : List (S52))))))) else (none)) else (none)) else (if 0 ≤ a2 then (if a2 < (l1.length : Int) then ((spec_l2Need.f k ((rd_T52 l1 a2).f0)).bind fun bt471 => (if bt471.1 = 0 then (some (([(⟨(rd_T52 l1 a2).f0, (rd_T52 l1 a2).f1⟩ : S52)] : List (S52)))) else ((spec_l2Fold.f k a0 l1 (wrap64 (a2 - 1))).bind fun t478 => (if bt471.1 = 2 then ((spec_l2From.f k l1 (wrap64 (a2 - 1))).bind fun t481 => ((spec_l2Fold.f k a0 l1 (wrap64 (t481 - 1))).bind fun t482 => (if t482.length + t478.length < 8796093022208 then ((some (t482 ++ t478 : List (S52))).bind fun y485 => (if y485.length < 8796093022208 then (some (y485 ++ [(⟨(rd_T52 l1 a2).f0, (rd_T52 l1 a2).f1⟩ : S52)])) else (none))) else (none)))) else (if t478.length < 8796093022208 then (some (t478 ++ [(⟨(rd_T52 l1 a2).f0, (rd_T52 l1 a2).f1⟩ : S52)])) else (none)))))) else (none)) else (none)))) else (none)) else (none)) else (none))
theorem spec_l2Fold.mono_l : ∀ k, (∀ y0 y1 y2, LeO (spec_l2Fold.f k y0 y1 y2) (spec_l2Fold.f (k + 1) y0 y1 y2))
  | 0 => fun _ _ _ r h => by simp [spec_l2Fold.f] at h
  | k + 1 => by
    have ih0 := spec_l2Fold.mono_l k
    · intro y0 y1 y2
      unfold spec_l2Fold.f
      repeat' first
      | (with_reducible exact ih0 _ _ _)
      | (with_reducible exact spec_l2From.mono _ _ _)
      | (with_reducible exact spec_l2Need.mono _ _)
      | (with_reducible exact spec_l2Value.mono _ _ _ _ _)
      | (with_reducible exact spec_l2Vars.mono _ _)
      | (with_reducible exact LeO.refl _)
      | (with_reducible exact LeO.none _)
      | (with_reducible refine LeO.ite ?_ ?_)
      | (with_reducible refine LeO.bind ?_ (fun _ => ?_))
      | exact ih0 _ _ _
      | exact spec_l2From.mono _ _ _
      | exact spec_l2Need.mono _ _
      | exact spec_l2Value.mono _ _ _ _ _
      | exact spec_l2Vars.mono _ _
      | exact LeO.none _
      | refine LeO.ite ?_ ?_
      | refine LeO.bind ?_ (fun _ => ?_)
theorem spec_l2Fold.mono : ∀ a0 a1 a2 k, LeO (spec_l2Fold.f k a0 a1 a2) (spec_l2Fold.f (k + 1) a0 a1 a2) := by
  intro a0 a1 a2 k
  have ih0 := spec_l2Fold.mono_l k
  exact ih0 a0 a1 a2
set_option maxHeartbeats 8000000 in
set_option maxRecDepth 100000 in
theorem spec_l2Fold.calls (k : Nat) : ∀ (a0 : Int) (A1 : Option Addr) (c1 : Nat) (l1 : List (S52)) (a2 : Int) (r : List (S52)) (w : World) (hr1 : Kd.C k52 w A1 l1.length l1) (hc1 : l1.length ≤ c1) (h : spec_l2Fold.f k a0 l1 a2 = some r),
    Calls Try.prog 40 #[.int .i64 a0, .slice A1 l1.length c1, .int .i64 a2] w fun e w' => ∃ v0_ : Value, e = .returned (v0_) ∧ Kd.R k52 52 w' w.heap.size (fun _ => True) v0_ r ∧ Below w.heap.size w w' := by
  induction k using Nat.strongRecOn with
  | _ k ih =>
  intro a0 A1 c1 l1 a2 r w hr1 hc1 h
  cases k with
  | zero => exact absurd h (by simp [spec_l2Fold.f])
  | succ k =>
  simp only [spec_l2Fold.f] at h
  have hu52 := Try.underlying52
  have HR1 := Aside0.mk hr1
  have HC1 := Aside0.mk hc1
  clear hr1 hc1
  have HB := Aside0.mk (Below.refl w.heap.size w)
  have H : ((spec_l2From.f k l1 a2).bind fun t450 => (if 0 ≤ t450 then (if t450 ≤ (wrap64 (a2 + 1)) then (if (wrap64 (a2 + 1)) ≤ (l1.length : Int) then ((spec_l2Vars.f k ((l1.take ((wrap64 (a2 + 1)) : Int).toNat).drop (t450 : Int).toNat)).bind fun t455 => (if (t455.length : Int) = 0 then (if 0 ≤ a2 then (if a2 < (l1.length : Int) then ((spec_l2Need.f k ((rd_T52 l1 a2).f0)).bind fun bt459 => (if bt459.2.2 = 2 then ((spec_l2Value.f k a0 l1 a2 ([] : List Int)).bind fun t462 => (some (([(⟨20, t462⟩ : S52)] : List (S52))))) else ((spec_l2Value.f k a0 l1 a2 ([] : List Int)).bind fun t466 => (some (([(⟨1, t466⟩ : S52)] : List (S52))))))) else (none)) else (none)) else (if 0 ≤ a2 then (if a2 < (l1.length : Int) then ((spec_l2Need.f k ((rd_T52 l1 a2).f0)).bind fun bt471 => (if bt471.1 = 0 then (some (([(⟨(rd_T52 l1 a2).f0, (rd_T52 l1 a2).f1⟩ : S52)] : List (S52)))) else ((spec_l2Fold.f k a0 l1 (wrap64 (a2 - 1))).bind fun t478 => (if bt471.1 = 2 then ((spec_l2From.f k l1 (wrap64 (a2 - 1))).bind fun t481 => ((spec_l2Fold.f k a0 l1 (wrap64 (t481 - 1))).bind fun t482 => (if t482.length + t478.length < 8796093022208 then ((some (t482 ++ t478 : List (S52))).bind fun y485 => (if y485.length < 8796093022208 then (some (y485 ++ [(⟨(rd_T52 l1 a2).f0, (rd_T52 l1 a2).f1⟩ : S52)])) else (none))) else (none)))) else (if t478.length < 8796093022208 then (some (t478 ++ [(⟨(rd_T52 l1 a2).f0, (rd_T52 l1 a2).f1⟩ : S52)])) else (none)))))) else (none)) else (none)))) else (none)) else (none)) else (none))) = some r := h
  clear h
  replace H := Option.bind_eq_some_iff.mp H
  obtain ⟨t450, A40, H⟩ := H
  replace H : (if 0 ≤ t450 then (if t450 ≤ (wrap64 (a2 + 1)) then (if (wrap64 (a2 + 1)) ≤ (l1.length : Int) then ((spec_l2Vars.f k ((l1.take ((wrap64 (a2 + 1)) : Int).toNat).drop (t450 : Int).toNat)).bind fun t455 => (if (t455.length : Int) = 0 then (if 0 ≤ a2 then (if a2 < (l1.length : Int) then ((spec_l2Need.f k ((rd_T52 l1 a2).f0)).bind fun bt459 => (if bt459.2.2 = 2 then ((spec_l2Value.f k a0 l1 a2 ([] : List Int)).bind fun t462 => (some (([(⟨20, t462⟩ : S52)] : List (S52))))) else ((spec_l2Value.f k a0 l1 a2 ([] : List Int)).bind fun t466 => (some (([(⟨1, t466⟩ : S52)] : List (S52))))))) else (none)) else (none)) else (if 0 ≤ a2 then (if a2 < (l1.length : Int) then ((spec_l2Need.f k ((rd_T52 l1 a2).f0)).bind fun bt471 => (if bt471.1 = 0 then (some (([(⟨(rd_T52 l1 a2).f0, (rd_T52 l1 a2).f1⟩ : S52)] : List (S52)))) else ((spec_l2Fold.f k a0 l1 (wrap64 (a2 - 1))).bind fun t478 => (if bt471.1 = 2 then ((spec_l2From.f k l1 (wrap64 (a2 - 1))).bind fun t481 => ((spec_l2Fold.f k a0 l1 (wrap64 (t481 - 1))).bind fun t482 => (if t482.length + t478.length < 8796093022208 then ((some (t482 ++ t478 : List (S52))).bind fun y485 => (if y485.length < 8796093022208 then (some (y485 ++ [(⟨(rd_T52 l1 a2).f0, (rd_T52 l1 a2).f1⟩ : S52)])) else (none))) else (none)))) else (if t478.length < 8796093022208 then (some (t478 ++ [(⟨(rd_T52 l1 a2).f0, (rd_T52 l1 a2).f1⟩ : S52)])) else (none)))))) else (none)) else (none)))) else (none)) else (none)) else (none)) = some r := H
  have A4 := Aside0.mk A40
  clear A40
  by_cases c5 : 0 ≤ t450
  · rw [if_pos c5] at H
    have c5b0 := eq_true c5
    have c5b1 : decide (0 ≤ t450) = true := decide_eq_true c5
    clear c5
    by_cases c6 : t450 ≤ (wrap64 (a2 + 1))
    · rw [if_pos c6] at H
      have c6b0 := eq_true c6
      have c6b1 : decide (t450 ≤ (wrap64 (a2 + 1))) = true := decide_eq_true c6
      by_cases c7 : (wrap64 (a2 + 1)) ≤ (l1.length : Int)
      · rw [if_pos c7] at H
        have c7b0 := eq_true c7
        have c7b1 : decide ((wrap64 (a2 + 1)) ≤ (l1.length : Int)) = true := decide_eq_true c7
        obtain ⟨y451, hy451⟩ : ∃ y_ : List (S52), y_ = ((l1.take ((wrap64 (a2 + 1)) : Int).toNat).drop (t450 : Int).toNat) := ⟨_, rfl⟩
        replace H : ((spec_l2Vars.f k y451).bind fun t455 => (if (t455.length : Int) = 0 then (if 0 ≤ a2 then (if a2 < (l1.length : Int) then ((spec_l2Need.f k ((rd_T52 l1 a2).f0)).bind fun bt459 => (if bt459.2.2 = 2 then ((spec_l2Value.f k a0 l1 a2 ([] : List Int)).bind fun t462 => (some (([(⟨20, t462⟩ : S52)] : List (S52))))) else ((spec_l2Value.f k a0 l1 a2 ([] : List Int)).bind fun t466 => (some (([(⟨1, t466⟩ : S52)] : List (S52))))))) else (none)) else (none)) else (if 0 ≤ a2 then (if a2 < (l1.length : Int) then ((spec_l2Need.f k ((rd_T52 l1 a2).f0)).bind fun bt471 => (if bt471.1 = 0 then (some (([(⟨(rd_T52 l1 a2).f0, (rd_T52 l1 a2).f1⟩ : S52)] : List (S52)))) else ((spec_l2Fold.f k a0 l1 (wrap64 (a2 - 1))).bind fun t478 => (if bt471.1 = 2 then ((spec_l2From.f k l1 (wrap64 (a2 - 1))).bind fun t481 => ((spec_l2Fold.f k a0 l1 (wrap64 (t481 - 1))).bind fun t482 => (if t482.length + t478.length < 8796093022208 then ((some (t482 ++ t478 : List (S52))).bind fun y485 => (if y485.length < 8796093022208 then (some (y485 ++ [(⟨(rd_T52 l1 a2).f0, (rd_T52 l1 a2).f1⟩ : S52)])) else (none))) else (none)))) else (if t478.length < 8796093022208 then (some (t478 ++ [(⟨(rd_T52 l1 a2).f0, (rd_T52 l1 a2).f1⟩ : S52)])) else (none)))))) else (none)) else (none)))) = some r := qY hy451 H
        have Ny451 := Aside0.mk hy451
        clear hy451
        replace H := Option.bind_eq_some_iff.mp H
        obtain ⟨t455, A80, H⟩ := H
        replace H : (if (t455.length : Int) = 0 then (if 0 ≤ a2 then (if a2 < (l1.length : Int) then ((spec_l2Need.f k ((rd_T52 l1 a2).f0)).bind fun bt459 => (if bt459.2.2 = 2 then ((spec_l2Value.f k a0 l1 a2 ([] : List Int)).bind fun t462 => (some (([(⟨20, t462⟩ : S52)] : List (S52))))) else ((spec_l2Value.f k a0 l1 a2 ([] : List Int)).bind fun t466 => (some (([(⟨1, t466⟩ : S52)] : List (S52))))))) else (none)) else (none)) else (if 0 ≤ a2 then (if a2 < (l1.length : Int) then ((spec_l2Need.f k ((rd_T52 l1 a2).f0)).bind fun bt471 => (if bt471.1 = 0 then (some (([(⟨(rd_T52 l1 a2).f0, (rd_T52 l1 a2).f1⟩ : S52)] : List (S52)))) else ((spec_l2Fold.f k a0 l1 (wrap64 (a2 - 1))).bind fun t478 => (if bt471.1 = 2 then ((spec_l2From.f k l1 (wrap64 (a2 - 1))).bind fun t481 => ((spec_l2Fold.f k a0 l1 (wrap64 (t481 - 1))).bind fun t482 => (if t482.length + t478.length < 8796093022208 then ((some (t482 ++ t478 : List (S52))).bind fun y485 => (if y485.length < 8796093022208 then (some (y485 ++ [(⟨(rd_T52 l1 a2).f0, (rd_T52 l1 a2).f1⟩ : S52)])) else (none))) else (none)))) else (if t478.length < 8796093022208 then (some (t478 ++ [(⟨(rd_T52 l1 a2).f0, (rd_T52 l1 a2).f1⟩ : S52)])) else (none)))))) else (none)) else (none))) = some r := H
        have A8 := Aside0.mk A80
        clear A80
        by_cases c9 : (t455.length : Int) = 0
        · rw [if_pos c9] at H
          have c9b0 : ((t455.length : Int) == 0) = true := beq_iff_eq.mpr c9
          have c9b1 : ((t455.length : Int) != 0) = false := bne_eq_false_iff_eq.mpr c9
          clear c9
          by_cases c10 : 0 ≤ a2
          · rw [if_pos c10] at H
            have c10b0 : decide (0 ≤ a2) = true := decide_eq_true c10
            clear c10
            by_cases c11 : a2 < (l1.length : Int)
            · rw [if_pos c11] at H
              have c11b0 : decide (a2 < (l1.length : Int)) = true := decide_eq_true c11
              clear c11
              replace H := Option.bind_eq_some_iff.mp H
              obtain ⟨⟨t459, t460, t461⟩, A120, H⟩ := H
              replace H : (if t461 = 2 then ((spec_l2Value.f k a0 l1 a2 ([] : List Int)).bind fun t462 => (some (([(⟨20, t462⟩ : S52)] : List (S52))))) else ((spec_l2Value.f k a0 l1 a2 ([] : List Int)).bind fun t466 => (some (([(⟨1, t466⟩ : S52)] : List (S52)))))) = some r := H
              have A12 := Aside0.mk A120
              clear A120
              by_cases c13 : t461 = 2
              · rw [if_pos c13] at H
                have c13b0 : (t461 == 2) = true := beq_iff_eq.mpr c13
                have c13b1 : (t461 != 2) = false := bne_eq_false_iff_eq.mpr c13
                clear c13
                replace H := Option.bind_eq_some_iff.mp H
                obtain ⟨t462, A140, H⟩ := H
                replace H : (some (([(⟨20, t462⟩ : S52)] : List (S52)))) = some r := H
                have A14 := Aside0.mk A140
                clear A140
                obtain ⟨y463, hy463⟩ : ∃ y_ : List (S52), y_ = (([(⟨20, t462⟩ : S52)] : List (S52))) := ⟨_, rfl⟩
                replace H : (some y463) = some r := qY hy463 H
                have Ny463 := Aside0.mk hy463
                clear hy463
                obtain rfl := Option.some.inj H
                go_enter Try.func40, Try.ntmps40
                go_wp2_with (first | ((with_reducible refine gate_callee (f := 61) rfl ?_); refine goesL_ (some 18) rfl rfl Try.func61 (by kernel_rfl) rfl #[.slice A1 l1.length c1, .int .i64 a2] rfl qG ?_; (with_reducible refine (spec_l2From.calls k _ _ l1 a2 t450 _ ?side1 ?side2 A4.out).mono ?_); (case side1 => exact qC HR1.out); (case side2 => exact HC1.out); rintro e w' ⟨rfl, ⟨nd, rfl⟩⟩; refine ⟨_, rfl, ?_⟩; have q15 : ((wrap64 (a2 + 1)) : Int) ≤ ((l1.length : Int) : Int) := qD; obtain ⟨i015, hi015, _, hsz15, _⟩ := info_parts info52; have hroom15 : l1.length ≤ c1 := HC1.out; have hC15 : Kd.C k52 _ A1 l1.length l1 := HR1.out; have ql15 : (t450 : Int) ≤ ((wrap64 (a2 + 1)) : Int) := qD; have q015 : (0 : Int) ≤ (t450 : Int) := qD; have hcut15 := cut_mid (P := Try.prog) 26 52 .i64 .i64 Try.underlying26 hi015 2 hsz15 A1 l1.length c1 t450 (wrap64 (a2 + 1)) q015 ql15 q15 hroom15; have hr15 := Kd.C_mid (lo := (t450 : Int).toNat) (hi := ((wrap64 (a2 + 1)) : Int).toNat) (c := c1) hC15 (by omega) (by omega) hroom15; obtain ⟨A15, hA15⟩ : ∃ A_, A_ = (if c1 = (t450 : Int).toNat then A1 else (A1 : Option Addr).map (·.add ((t450 : Int).toNat * 2))) := ⟨_, rfl⟩; obtain ⟨c15, hc15⟩ : ∃ c_, c_ = c1 - (t450 : Int).toNat := ⟨_, rfl⟩; have hy15 : y451.length = ((wrap64 (a2 + 1)) : Int).toNat - (t450 : Int).toNat := (by rw [Ny451.out, List.length_drop, List.length_take] <;> omega); rw [show ((l1).take ((wrap64 (a2 + 1)) : Int).toNat).drop (t450 : Int).toNat = y451 from Ny451.out.symm] at hr15; replace hr15 : Kd.C k52 _ A15 y451.length y451 := (by rw [hA15]; exact hr15); rw [← hy15, ← hA15, ← hc15] at hcut15; have HR454 := Aside0.mk hr15; have HC454 := Aside0.mk (show y451.length ≤ c15 from by rw [hy15, hc15]; exact Nat.sub_le_sub_right (Nat.le_trans (by omega) hroom15) _); clear hr15 hC15 hroom15 hi015 hsz15 hc15; have KY15 := Aside0.mk hy15; have KA15 := Aside0.mk hA15; clear hy15 hA15; replace q15 := eq_true q15) | ((with_reducible refine gate_callee (f := 66) rfl ?_); refine goesL_ (some 24) rfl rfl Try.func66 (by kernel_rfl) rfl #[.slice A15 y451.length c15] rfl qG ?_; (with_reducible refine (spec_l2Vars.calls k _ _ y451 t455 _ ?side1 ?side2 A8.out).mono ?_); (case side1 => exact qC HR454.out); (case side2 => exact HC454.out); rintro e w16 ⟨v456, rfl, ho0, hb⟩; refine ⟨_, rfl, ?_⟩; have n0_ := Aside0.mk (Kd.R_lower ho0 (below_size (qB))); have n1_ := Aside0.mk (below_step (qB) hb); clear HB; have HO457 := n0_; have HB := n1_; clear n0_ n1_; (try clear hb); (try clear hb2); (try clear hk); (try clear hi); (try clear ho0); obtain ⟨Ao17, co17, eo17⟩ := Kd.R_slice HO457.out; subst eo17; have p458 : 0 ≤ (a2 : Int) := qD; have q458 : a2 < (l1.length : Int) := qD; obtain ⟨ad458, e458, hx458_0, hx458_1⟩ := at_T52 HR1.out a2 p458 q458; cases e458; replace hx458_0 := (HB.out.cell (World.block_lt_of_cell? w _ hx458_0)).trans hx458_0; replace hx458_1 := (HB.out.cell (World.block_lt_of_cell? w _ hx458_1)).trans hx458_1; replace p458 := eq_true p458; replace q458 := eq_true q458) | ((with_reducible refine gate_callee (f := 49) rfl ?_); refine goesL_ (some 33) rfl rfl Try.func49 (by kernel_rfl) rfl #[.int .i64 ((rd_T52 l1 a2).f0)] rfl qG ?_; (with_reducible refine (spec_l2Need.calls k ((rd_T52 l1 a2).f0) t459 t460 t461 _ A12.out).mono ?_); rintro e w' ⟨rfl, ⟨nd, rfl⟩⟩; refine ⟨_, rfl, ?_⟩) | ((with_reducible refine gate_callee (f := 37) rfl ?_); refine goesL_ (some 43) rfl rfl Try.func37 (by kernel_rfl) rfl #[.int .i64 a0, .slice (some ad458) l1.length c1, .int .i64 a2, .slice none 0 0] rfl qG ?_; (refine (spec_l2Value.calls k a0 _ _ l1 a2 _ _ ([] : List Int) t462 _ ?side1 ?side2 ?side3 ?side4 A14.out).mono ?_); (case side1 => repeat (first | exact (Kd.C_below HR1.out (qB)) | (with_reducible refine Kd.C_alloc ?_ _) | (with_reducible refine Kd.C_drewN ?_ _) | (with_reducible refine Kd.C_drew ?_))); (case side2 => exact HC1.out); (case side3 => exact Kd.C_nil _ _); (case side4 => exact Nat.le_refl _); rintro e w18 ⟨rfl, hb⟩; refine ⟨_, rfl, ?_⟩; have n0_ := Aside0.mk (Kd.R_below (qR HO457.out) hb); have n1_ := Aside0.mk (below_step (qB) hb); clear HO457; clear HB; have HO457 := n0_; have HB := n1_; clear n0_ n1_; (try clear hb); (try clear hb2); (try clear hk); (try clear hi)) | ((with_reducible refine gate_dst (N := 45) rfl ?_); refine Kd.R_lit k52 _ 52 ?hg (N := 45) ?hd (xs := ([(⟨20, t462⟩ : S52)] : List (S52))) (inner := [.int .i64 20, .int .u64 t462]) (ok := fun _ => True) (okp := fun _ => True) ?hr ?hp (fun _ hk => hk) trivial (Below.refl _ _) (Nat.le_refl _) (by simp) ?_; (case hd => rfl); (case hg => rfl); (case hr => first | (go_simp; done) | (go_simp; rfl)); (case hp => exact (Reps.c2 (show Kd.M k52 _ _ _ (⟨20, t462⟩ : S52) [.int .i64 20, .int .u64 t462] from (k52_mkM _ _ _ (⟨20, t462⟩ : S52) )) (Reps.none _ _))); intro v464 w19 ho20 hb hg_ hnew_; clear hg_ hnew_; (first | rw [← Ny463.out] at ho20 | (simp only [Int.reduceToNat] at ho20; rw [← Ny463.out] at ho20)); have n0_ := Aside0.mk (Kd.R_below (qR HO457.out) hb); have n1_ := Aside0.mk (Kd.R_lower ho20 (below_size (qB))); have n2_ := Aside0.mk (below_step (qB) hb); clear HO457; clear HB; have HO457 := n0_; have HO465 := n1_; have HB := n2_; clear n0_ n1_ n2_; clear hb ho20))
                go_ret
                exact ⟨_, qE, qR HO465.out, qB⟩
              · rw [if_neg c13] at H
                have c13b0 : (t461 == 2) = false := beq_eq_false_iff_ne.mpr c13
                have c13b1 : (t461 != 2) = true := bne_iff_ne.mpr c13
                replace H := Option.bind_eq_some_iff.mp H
                obtain ⟨t466, A210, H⟩ := H
                replace H : (some (([(⟨1, t466⟩ : S52)] : List (S52)))) = some r := H
                have A21 := Aside0.mk A210
                clear A210
                obtain ⟨y467, hy467⟩ : ∃ y_ : List (S52), y_ = (([(⟨1, t466⟩ : S52)] : List (S52))) := ⟨_, rfl⟩
                replace H : (some y467) = some r := qY hy467 H
                have Ny467 := Aside0.mk hy467
                clear hy467
                obtain rfl := Option.some.inj H
                go_enter Try.func40, Try.ntmps40
                go_wp2_with (first | ((with_reducible refine gate_callee (f := 61) rfl ?_); refine goesL_ (some 18) rfl rfl Try.func61 (by kernel_rfl) rfl #[.slice A1 l1.length c1, .int .i64 a2] rfl qG ?_; (with_reducible refine (spec_l2From.calls k _ _ l1 a2 t450 _ ?side1 ?side2 A4.out).mono ?_); (case side1 => exact qC HR1.out); (case side2 => exact HC1.out); rintro e w' ⟨rfl, ⟨nd, rfl⟩⟩; refine ⟨_, rfl, ?_⟩; have q22 : ((wrap64 (a2 + 1)) : Int) ≤ ((l1.length : Int) : Int) := qD; obtain ⟨i022, hi022, _, hsz22, _⟩ := info_parts info52; have hroom22 : l1.length ≤ c1 := HC1.out; have hC22 : Kd.C k52 _ A1 l1.length l1 := HR1.out; have ql22 : (t450 : Int) ≤ ((wrap64 (a2 + 1)) : Int) := qD; have q022 : (0 : Int) ≤ (t450 : Int) := qD; have hcut22 := cut_mid (P := Try.prog) 26 52 .i64 .i64 Try.underlying26 hi022 2 hsz22 A1 l1.length c1 t450 (wrap64 (a2 + 1)) q022 ql22 q22 hroom22; have hr22 := Kd.C_mid (lo := (t450 : Int).toNat) (hi := ((wrap64 (a2 + 1)) : Int).toNat) (c := c1) hC22 (by omega) (by omega) hroom22; obtain ⟨A22, hA22⟩ : ∃ A_, A_ = (if c1 = (t450 : Int).toNat then A1 else (A1 : Option Addr).map (·.add ((t450 : Int).toNat * 2))) := ⟨_, rfl⟩; obtain ⟨c22, hc22⟩ : ∃ c_, c_ = c1 - (t450 : Int).toNat := ⟨_, rfl⟩; have hy22 : y451.length = ((wrap64 (a2 + 1)) : Int).toNat - (t450 : Int).toNat := (by rw [Ny451.out, List.length_drop, List.length_take] <;> omega); rw [show ((l1).take ((wrap64 (a2 + 1)) : Int).toNat).drop (t450 : Int).toNat = y451 from Ny451.out.symm] at hr22; replace hr22 : Kd.C k52 _ A22 y451.length y451 := (by rw [hA22]; exact hr22); rw [← hy22, ← hA22, ← hc22] at hcut22; have HR454 := Aside0.mk hr22; have HC454 := Aside0.mk (show y451.length ≤ c22 from by rw [hy22, hc22]; exact Nat.sub_le_sub_right (Nat.le_trans (by omega) hroom22) _); clear hr22 hC22 hroom22 hi022 hsz22 hc22; have KY22 := Aside0.mk hy22; have KA22 := Aside0.mk hA22; clear hy22 hA22; replace q22 := eq_true q22) | ((with_reducible refine gate_callee (f := 66) rfl ?_); refine goesL_ (some 24) rfl rfl Try.func66 (by kernel_rfl) rfl #[.slice A22 y451.length c22] rfl qG ?_; (with_reducible refine (spec_l2Vars.calls k _ _ y451 t455 _ ?side1 ?side2 A8.out).mono ?_); (case side1 => exact qC HR454.out); (case side2 => exact HC454.out); rintro e w23 ⟨v456, rfl, ho0, hb⟩; refine ⟨_, rfl, ?_⟩; have n0_ := Aside0.mk (Kd.R_lower ho0 (below_size (qB))); have n1_ := Aside0.mk (below_step (qB) hb); clear HB; have HO457 := n0_; have HB := n1_; clear n0_ n1_; (try clear hb); (try clear hb2); (try clear hk); (try clear hi); (try clear ho0); obtain ⟨Ao24, co24, eo24⟩ := Kd.R_slice HO457.out; subst eo24; have p458 : 0 ≤ (a2 : Int) := qD; have q458 : a2 < (l1.length : Int) := qD; obtain ⟨ad458, e458, hx458_0, hx458_1⟩ := at_T52 HR1.out a2 p458 q458; cases e458; replace hx458_0 := (HB.out.cell (World.block_lt_of_cell? w _ hx458_0)).trans hx458_0; replace hx458_1 := (HB.out.cell (World.block_lt_of_cell? w _ hx458_1)).trans hx458_1; replace p458 := eq_true p458; replace q458 := eq_true q458) | ((with_reducible refine gate_callee (f := 49) rfl ?_); refine goesL_ (some 33) rfl rfl Try.func49 (by kernel_rfl) rfl #[.int .i64 ((rd_T52 l1 a2).f0)] rfl qG ?_; (with_reducible refine (spec_l2Need.calls k ((rd_T52 l1 a2).f0) t459 t460 t461 _ A12.out).mono ?_); rintro e w' ⟨rfl, ⟨nd, rfl⟩⟩; refine ⟨_, rfl, ?_⟩) | ((with_reducible refine gate_callee (f := 37) rfl ?_); refine goesL_ (some 43) rfl rfl Try.func37 (by kernel_rfl) rfl #[.int .i64 a0, .slice (some ad458) l1.length c1, .int .i64 a2, .slice none 0 0] rfl qG ?_; (refine (spec_l2Value.calls k a0 _ _ l1 a2 _ _ ([] : List Int) t466 _ ?side1 ?side2 ?side3 ?side4 A21.out).mono ?_); (case side1 => repeat (first | exact (Kd.C_below HR1.out (qB)) | (with_reducible refine Kd.C_alloc ?_ _) | (with_reducible refine Kd.C_drewN ?_ _) | (with_reducible refine Kd.C_drew ?_))); (case side2 => exact HC1.out); (case side3 => exact Kd.C_nil _ _); (case side4 => exact Nat.le_refl _); rintro e w25 ⟨rfl, hb⟩; refine ⟨_, rfl, ?_⟩; have n0_ := Aside0.mk (Kd.R_below (qR HO457.out) hb); have n1_ := Aside0.mk (below_step (qB) hb); clear HO457; clear HB; have HO457 := n0_; have HB := n1_; clear n0_ n1_; (try clear hb); (try clear hb2); (try clear hk); (try clear hi)) | ((with_reducible refine gate_dst (N := 45) rfl ?_); refine Kd.R_lit k52 _ 52 ?hg (N := 45) ?hd (xs := ([(⟨1, t466⟩ : S52)] : List (S52))) (inner := [.int .i64 1, .int .u64 t466]) (ok := fun _ => True) (okp := fun _ => True) ?hr ?hp (fun _ hk => hk) trivial (Below.refl _ _) (Nat.le_refl _) (by simp) ?_; (case hd => rfl); (case hg => rfl); (case hr => first | (go_simp; done) | (go_simp; rfl)); (case hp => exact (Reps.c2 (show Kd.M k52 _ _ _ (⟨1, t466⟩ : S52) [.int .i64 1, .int .u64 t466] from (k52_mkM _ _ _ (⟨1, t466⟩ : S52) )) (Reps.none _ _))); intro v468 w26 ho27 hb hg_ hnew_; clear hg_ hnew_; (first | rw [← Ny467.out] at ho27 | (simp only [Int.reduceToNat] at ho27; rw [← Ny467.out] at ho27)); have n0_ := Aside0.mk (Kd.R_below (qR HO457.out) hb); have n1_ := Aside0.mk (Kd.R_lower ho27 (below_size (qB))); have n2_ := Aside0.mk (below_step (qB) hb); clear HO457; clear HB; have HO457 := n0_; have HO469 := n1_; have HB := n2_; clear n0_ n1_ n2_; clear hb ho27))
                go_ret
                exact ⟨_, qE, qR HO469.out, qB⟩
            · rw [if_neg c11] at H
              exact absurd H (by simp)
          · rw [if_neg c10] at H
            exact absurd H (by simp)
        · rw [if_neg c9] at H
          have c9b0 : ((t455.length : Int) == 0) = false := beq_eq_false_iff_ne.mpr c9
          have c9b1 : ((t455.length : Int) != 0) = true := bne_iff_ne.mpr c9
          have c9b2 : ¬ (t455 = []) := fun h_ => c9 (by rw [h_]; rfl)
          by_cases c28 : 0 ≤ a2
          · rw [if_pos c28] at H
            have c28b0 : decide (0 ≤ a2) = true := decide_eq_true c28
            clear c28
            by_cases c29 : a2 < (l1.length : Int)
            · rw [if_pos c29] at H
              have c29b0 : decide (a2 < (l1.length : Int)) = true := decide_eq_true c29
              clear c29
              replace H := Option.bind_eq_some_iff.mp H
              obtain ⟨⟨t471, t472, t473⟩, A300, H⟩ := H
              replace H : (if t471 = 0 then (some (([(⟨(rd_T52 l1 a2).f0, (rd_T52 l1 a2).f1⟩ : S52)] : List (S52)))) else ((spec_l2Fold.f k a0 l1 (wrap64 (a2 - 1))).bind fun t478 => (if t471 = 2 then ((spec_l2From.f k l1 (wrap64 (a2 - 1))).bind fun t481 => ((spec_l2Fold.f k a0 l1 (wrap64 (t481 - 1))).bind fun t482 => (if t482.length + t478.length < 8796093022208 then ((some (t482 ++ t478 : List (S52))).bind fun y485 => (if y485.length < 8796093022208 then (some (y485 ++ [(⟨(rd_T52 l1 a2).f0, (rd_T52 l1 a2).f1⟩ : S52)])) else (none))) else (none)))) else (if t478.length < 8796093022208 then (some (t478 ++ [(⟨(rd_T52 l1 a2).f0, (rd_T52 l1 a2).f1⟩ : S52)])) else (none))))) = some r := H
              have A30 := Aside0.mk A300
              clear A300
              by_cases c31 : t471 = 0
              · rw [if_pos c31] at H
                have c31b0 : (t471 == 0) = true := beq_iff_eq.mpr c31
                have c31b1 : (t471 != 0) = false := bne_eq_false_iff_eq.mpr c31
                clear c31
                obtain ⟨y475, hy475⟩ : ∃ y_ : List (S52), y_ = (([(⟨(rd_T52 l1 a2).f0, (rd_T52 l1 a2).f1⟩ : S52)] : List (S52))) := ⟨_, rfl⟩
                replace H : (some y475) = some r := qY hy475 H
                have Ny475 := Aside0.mk hy475
                clear hy475
                obtain rfl := Option.some.inj H
                go_enter Try.func40, Try.ntmps40
                go_wp2_with (first | ((with_reducible refine gate_callee (f := 61) rfl ?_); refine goesL_ (some 18) rfl rfl Try.func61 (by kernel_rfl) rfl #[.slice A1 l1.length c1, .int .i64 a2] rfl qG ?_; (with_reducible refine (spec_l2From.calls k _ _ l1 a2 t450 _ ?side1 ?side2 A4.out).mono ?_); (case side1 => exact qC HR1.out); (case side2 => exact HC1.out); rintro e w' ⟨rfl, ⟨nd, rfl⟩⟩; refine ⟨_, rfl, ?_⟩; have q32 : ((wrap64 (a2 + 1)) : Int) ≤ ((l1.length : Int) : Int) := qD; obtain ⟨i032, hi032, _, hsz32, _⟩ := info_parts info52; have hroom32 : l1.length ≤ c1 := HC1.out; have hC32 : Kd.C k52 _ A1 l1.length l1 := HR1.out; have ql32 : (t450 : Int) ≤ ((wrap64 (a2 + 1)) : Int) := qD; have q032 : (0 : Int) ≤ (t450 : Int) := qD; have hcut32 := cut_mid (P := Try.prog) 26 52 .i64 .i64 Try.underlying26 hi032 2 hsz32 A1 l1.length c1 t450 (wrap64 (a2 + 1)) q032 ql32 q32 hroom32; have hr32 := Kd.C_mid (lo := (t450 : Int).toNat) (hi := ((wrap64 (a2 + 1)) : Int).toNat) (c := c1) hC32 (by omega) (by omega) hroom32; obtain ⟨A32, hA32⟩ : ∃ A_, A_ = (if c1 = (t450 : Int).toNat then A1 else (A1 : Option Addr).map (·.add ((t450 : Int).toNat * 2))) := ⟨_, rfl⟩; obtain ⟨c32, hc32⟩ : ∃ c_, c_ = c1 - (t450 : Int).toNat := ⟨_, rfl⟩; have hy32 : y451.length = ((wrap64 (a2 + 1)) : Int).toNat - (t450 : Int).toNat := (by rw [Ny451.out, List.length_drop, List.length_take] <;> omega); rw [show ((l1).take ((wrap64 (a2 + 1)) : Int).toNat).drop (t450 : Int).toNat = y451 from Ny451.out.symm] at hr32; replace hr32 : Kd.C k52 _ A32 y451.length y451 := (by rw [hA32]; exact hr32); rw [← hy32, ← hA32, ← hc32] at hcut32; have HR454 := Aside0.mk hr32; have HC454 := Aside0.mk (show y451.length ≤ c32 from by rw [hy32, hc32]; exact Nat.sub_le_sub_right (Nat.le_trans (by omega) hroom32) _); clear hr32 hC32 hroom32 hi032 hsz32 hc32; have KY32 := Aside0.mk hy32; have KA32 := Aside0.mk hA32; clear hy32 hA32; replace q32 := eq_true q32) | ((with_reducible refine gate_callee (f := 66) rfl ?_); refine goesL_ (some 24) rfl rfl Try.func66 (by kernel_rfl) rfl #[.slice A32 y451.length c32] rfl qG ?_; (with_reducible refine (spec_l2Vars.calls k _ _ y451 t455 _ ?side1 ?side2 A8.out).mono ?_); (case side1 => exact qC HR454.out); (case side2 => exact HC454.out); rintro e w33 ⟨v456, rfl, ho0, hb⟩; refine ⟨_, rfl, ?_⟩; have n0_ := Aside0.mk (Kd.R_lower ho0 (below_size (qB))); have n1_ := Aside0.mk (below_step (qB) hb); clear HB; have HO457 := n0_; have HB := n1_; clear n0_ n1_; (try clear hb); (try clear hb2); (try clear hk); (try clear hi); (try clear ho0); obtain ⟨Ao34, co34, eo34⟩ := Kd.R_slice HO457.out; subst eo34; have p470 : 0 ≤ (a2 : Int) := qD; have q470 : a2 < (l1.length : Int) := qD; obtain ⟨ad470, e470, hx470_0, hx470_1⟩ := at_T52 HR1.out a2 p470 q470; cases e470; replace hx470_0 := (HB.out.cell (World.block_lt_of_cell? w _ hx470_0)).trans hx470_0; replace hx470_1 := (HB.out.cell (World.block_lt_of_cell? w _ hx470_1)).trans hx470_1; replace p470 := eq_true p470; replace q470 := eq_true q470) | ((with_reducible refine gate_callee (f := 49) rfl ?_); refine goesL_ (some 52) rfl rfl Try.func49 (by kernel_rfl) rfl #[.int .i64 ((rd_T52 l1 a2).f0)] rfl qG ?_; (with_reducible refine (spec_l2Need.calls k ((rd_T52 l1 a2).f0) t471 t472 t473 _ A30.out).mono ?_); rintro e w' ⟨rfl, ⟨nd, rfl⟩⟩; refine ⟨_, rfl, ?_⟩; have p474 : 0 ≤ (a2 : Int) := qD; have q474 : a2 < (l1.length : Int) := qD; obtain ⟨ad474, e474, hx474_0, hx474_1⟩ := at_T52 HR1.out a2 p474 q474; obtain rfl : ad470 = ad474 := (by injection e474); replace hx474_0 := (HB.out.cell (World.block_lt_of_cell? w _ hx474_0)).trans hx474_0; replace hx474_1 := (HB.out.cell (World.block_lt_of_cell? w _ hx474_1)).trans hx474_1; replace p474 := eq_true p474; replace q474 := eq_true q474) | ((with_reducible refine gate_dst (N := 62) rfl ?_); refine Kd.R_lit k52 _ 52 ?hg (N := 62) ?hd (xs := ([(⟨(rd_T52 l1 a2).f0, (rd_T52 l1 a2).f1⟩ : S52)] : List (S52))) (inner := [.int .i64 ((rd_T52 l1 a2).f0), .int .u64 ((rd_T52 l1 a2).f1)]) (ok := fun _ => True) (okp := fun _ => True) ?hr ?hp (fun _ hk => hk) trivial (Below.refl _ _) (Nat.le_refl _) (by simp) ?_; (case hd => rfl); (case hg => rfl); (case hr => first | (go_simp; done) | (go_simp; rfl)); (case hp => exact (Reps.c2 (show Kd.M k52 _ _ _ (⟨(rd_T52 l1 a2).f0, (rd_T52 l1 a2).f1⟩ : S52) [.int .i64 ((rd_T52 l1 a2).f0), .int .u64 ((rd_T52 l1 a2).f1)] from (k52_mkM _ _ _ (⟨(rd_T52 l1 a2).f0, (rd_T52 l1 a2).f1⟩ : S52) )) (Reps.none _ _))); intro v476 w35 ho36 hb hg_ hnew_; clear hg_ hnew_; (first | rw [← Ny475.out] at ho36 | (simp only [Int.reduceToNat] at ho36; rw [← Ny475.out] at ho36)); have n0_ := Aside0.mk (Kd.R_below (qR HO457.out) hb); have n1_ := Aside0.mk (Kd.R_lower ho36 (below_size (qB))); have n2_ := Aside0.mk (below_step (qB) hb); clear HO457; clear HB; have HO457 := n0_; have HO477 := n1_; have HB := n2_; clear n0_ n1_ n2_; clear hb ho36))
                go_ret
                exact ⟨_, qE, qR HO477.out, qB⟩
              · rw [if_neg c31] at H
                have c31b0 : (t471 == 0) = false := beq_eq_false_iff_ne.mpr c31
                have c31b1 : (t471 != 0) = true := bne_iff_ne.mpr c31
                replace H := Option.bind_eq_some_iff.mp H
                obtain ⟨t478, A370, H⟩ := H
                replace H : (if t471 = 2 then ((spec_l2From.f k l1 (wrap64 (a2 - 1))).bind fun t481 => ((spec_l2Fold.f k a0 l1 (wrap64 (t481 - 1))).bind fun t482 => (if t482.length + t478.length < 8796093022208 then ((some (t482 ++ t478 : List (S52))).bind fun y485 => (if y485.length < 8796093022208 then (some (y485 ++ [(⟨(rd_T52 l1 a2).f0, (rd_T52 l1 a2).f1⟩ : S52)])) else (none))) else (none)))) else (if t478.length < 8796093022208 then (some (t478 ++ [(⟨(rd_T52 l1 a2).f0, (rd_T52 l1 a2).f1⟩ : S52)])) else (none))) = some r := H
                have A37 := Aside0.mk A370
                clear A370
                by_cases c38 : t471 = 2
                · rw [if_pos c38] at H
                  have c38b0 : (t471 == 2) = true := beq_iff_eq.mpr c38
                  have c38b1 : (t471 != 2) = false := bne_eq_false_iff_eq.mpr c38
                  clear c38
                  replace H := Option.bind_eq_some_iff.mp H
                  obtain ⟨t481, A390, H⟩ := H
                  replace H : ((spec_l2Fold.f k a0 l1 (wrap64 (t481 - 1))).bind fun t482 => (if t482.length + t478.length < 8796093022208 then ((some (t482 ++ t478 : List (S52))).bind fun y485 => (if y485.length < 8796093022208 then (some (y485 ++ [(⟨(rd_T52 l1 a2).f0, (rd_T52 l1 a2).f1⟩ : S52)])) else (none))) else (none))) = some r := H
                  have A39 := Aside0.mk A390
                  clear A390
                  replace H := Option.bind_eq_some_iff.mp H
                  obtain ⟨t482, A400, H⟩ := H
                  replace H : (if t482.length + t478.length < 8796093022208 then ((some (t482 ++ t478 : List (S52))).bind fun y485 => (if y485.length < 8796093022208 then (some (y485 ++ [(⟨(rd_T52 l1 a2).f0, (rd_T52 l1 a2).f1⟩ : S52)])) else (none))) else (none)) = some r := H
                  have A40 := Aside0.mk A400
                  clear A400
                  by_cases c41 : t482.length + t478.length < 8796093022208
                  · rw [if_pos c41] at H
                    have LMc41 := Aside0.mk c41
                    clear c41
                    obtain ⟨y485, hy485⟩ : ∃ y_ : List (S52), y_ = (t482 ++ t478) := ⟨_, rfl⟩
                    replace H : (if y485.length < 8796093022208 then (some (y485 ++ [(⟨(rd_T52 l1 a2).f0, (rd_T52 l1 a2).f1⟩ : S52)])) else (none)) = some r := qY hy485 H
                    have Ny485 := Aside0.mk hy485
                    clear hy485
                    by_cases c42 : y485.length < 8796093022208
                    · rw [if_pos c42] at H
                      have LMc42 := Aside0.mk c42
                      clear c42
                      obtain ⟨y489, hy489⟩ : ∃ y_ : List (S52), y_ = (y485 ++ [(⟨(rd_T52 l1 a2).f0, (rd_T52 l1 a2).f1⟩ : S52)]) := ⟨_, rfl⟩
                      replace H : (some y489) = some r := qY hy489 H
                      have Ny489 := Aside0.mk hy489
                      clear hy489
                      obtain rfl := Option.some.inj H
                      go_enter Try.func40, Try.ntmps40
                      go_wp2_with (first | ((with_reducible refine gate_callee (f := 61) rfl ?_); refine goesL_ (some 18) rfl rfl Try.func61 (by kernel_rfl) rfl #[.slice A1 l1.length c1, .int .i64 a2] rfl qG ?_; (with_reducible refine (spec_l2From.calls k _ _ l1 a2 t450 _ ?side1 ?side2 A4.out).mono ?_); (case side1 => exact qC HR1.out); (case side2 => exact HC1.out); rintro e w' ⟨rfl, ⟨nd, rfl⟩⟩; refine ⟨_, rfl, ?_⟩; have q43 : ((wrap64 (a2 + 1)) : Int) ≤ ((l1.length : Int) : Int) := qD; obtain ⟨i043, hi043, _, hsz43, _⟩ := info_parts info52; have hroom43 : l1.length ≤ c1 := HC1.out; have hC43 : Kd.C k52 _ A1 l1.length l1 := HR1.out; have ql43 : (t450 : Int) ≤ ((wrap64 (a2 + 1)) : Int) := qD; have q043 : (0 : Int) ≤ (t450 : Int) := qD; have hcut43 := cut_mid (P := Try.prog) 26 52 .i64 .i64 Try.underlying26 hi043 2 hsz43 A1 l1.length c1 t450 (wrap64 (a2 + 1)) q043 ql43 q43 hroom43; have hr43 := Kd.C_mid (lo := (t450 : Int).toNat) (hi := ((wrap64 (a2 + 1)) : Int).toNat) (c := c1) hC43 (by omega) (by omega) hroom43; obtain ⟨A43, hA43⟩ : ∃ A_, A_ = (if c1 = (t450 : Int).toNat then A1 else (A1 : Option Addr).map (·.add ((t450 : Int).toNat * 2))) := ⟨_, rfl⟩; obtain ⟨c43, hc43⟩ : ∃ c_, c_ = c1 - (t450 : Int).toNat := ⟨_, rfl⟩; have hy43 : y451.length = ((wrap64 (a2 + 1)) : Int).toNat - (t450 : Int).toNat := (by rw [Ny451.out, List.length_drop, List.length_take] <;> omega); rw [show ((l1).take ((wrap64 (a2 + 1)) : Int).toNat).drop (t450 : Int).toNat = y451 from Ny451.out.symm] at hr43; replace hr43 : Kd.C k52 _ A43 y451.length y451 := (by rw [hA43]; exact hr43); rw [← hy43, ← hA43, ← hc43] at hcut43; have HR454 := Aside0.mk hr43; have HC454 := Aside0.mk (show y451.length ≤ c43 from by rw [hy43, hc43]; exact Nat.sub_le_sub_right (Nat.le_trans (by omega) hroom43) _); clear hr43 hC43 hroom43 hi043 hsz43 hc43; have KY43 := Aside0.mk hy43; have KA43 := Aside0.mk hA43; clear hy43 hA43; replace q43 := eq_true q43) | ((with_reducible refine gate_callee (f := 66) rfl ?_); refine goesL_ (some 24) rfl rfl Try.func66 (by kernel_rfl) rfl #[.slice A43 y451.length c43] rfl qG ?_; (with_reducible refine (spec_l2Vars.calls k _ _ y451 t455 _ ?side1 ?side2 A8.out).mono ?_); (case side1 => exact qC HR454.out); (case side2 => exact HC454.out); rintro e w44 ⟨v456, rfl, ho0, hb⟩; refine ⟨_, rfl, ?_⟩; have n0_ := Aside0.mk (Kd.R_lower ho0 (below_size (qB))); have n1_ := Aside0.mk (below_step (qB) hb); clear HB; have HO457 := n0_; have HB := n1_; clear n0_ n1_; (try clear hb); (try clear hb2); (try clear hk); (try clear hi); (try clear ho0); obtain ⟨Ao45, co45, eo45⟩ := Kd.R_slice HO457.out; subst eo45; have p470 : 0 ≤ (a2 : Int) := qD; have q470 : a2 < (l1.length : Int) := qD; obtain ⟨ad470, e470, hx470_0, hx470_1⟩ := at_T52 HR1.out a2 p470 q470; cases e470; replace hx470_0 := (HB.out.cell (World.block_lt_of_cell? w _ hx470_0)).trans hx470_0; replace hx470_1 := (HB.out.cell (World.block_lt_of_cell? w _ hx470_1)).trans hx470_1; replace p470 := eq_true p470; replace q470 := eq_true q470) | ((with_reducible refine gate_callee (f := 49) rfl ?_); refine goesL_ (some 52) rfl rfl Try.func49 (by kernel_rfl) rfl #[.int .i64 ((rd_T52 l1 a2).f0)] rfl qG ?_; (with_reducible refine (spec_l2Need.calls k ((rd_T52 l1 a2).f0) t471 t472 t473 _ A30.out).mono ?_); rintro e w' ⟨rfl, ⟨nd, rfl⟩⟩; refine ⟨_, rfl, ?_⟩) | ((with_reducible refine gate_callee (f := 40) rfl ?_); refine goesL_ (some 67) rfl rfl Try.func40 (by kernel_rfl) rfl #[.int .i64 a0, .slice (some ad470) l1.length c1, .int .i64 (wrap64 (a2 - 1))] rfl qG ?_; (with_reducible refine (ih k (by omega) a0 _ _ l1 (wrap64 (a2 - 1)) t478 _ ?side1 ?side2 A37.out).mono ?_); (case side1 => repeat (first | exact (Kd.C_below HR1.out (qB)) | (with_reducible refine Kd.C_alloc ?_ _) | (with_reducible refine Kd.C_drewN ?_ _) | (with_reducible refine Kd.C_drew ?_))); (case side2 => exact HC1.out); rintro e w46 ⟨v479, rfl, ho0, hb⟩; refine ⟨_, rfl, ?_⟩; have n0_ := Aside0.mk (Kd.R_below (qR HO457.out) hb); have n1_ := Aside0.mk (Kd.R_lower ho0 (below_size (qB))); have n2_ := Aside0.mk (below_step (qB) hb); clear HO457; clear HB; have HO457 := n0_; have HO480 := n1_; have HB := n2_; clear n0_ n1_ n2_; (try clear hb); (try clear hb2); (try clear hk); (try clear hi); (try clear ho0)) | ((with_reducible refine gate_callee (f := 61) rfl ?_); refine goesL_ (some 75) rfl rfl Try.func61 (by kernel_rfl) rfl #[.slice (some ad470) l1.length c1, .int .i64 (wrap64 (a2 - 1))] rfl qG ?_; (with_reducible refine (spec_l2From.calls k _ _ l1 (wrap64 (a2 - 1)) t481 _ ?side1 ?side2 A39.out).mono ?_); (case side1 => exact qC (Kd.C_below HR1.out HB.out)); (case side2 => exact HC1.out); rintro e w' ⟨rfl, ⟨nd, rfl⟩⟩; refine ⟨_, rfl, ?_⟩) | ((with_reducible refine gate_callee (f := 40) rfl ?_); refine goesL_ (some 77) rfl rfl Try.func40 (by kernel_rfl) rfl #[.int .i64 a0, .slice (some ad470) l1.length c1, .int .i64 (wrap64 (t481 - 1))] rfl qG ?_; (with_reducible refine (ih k (by omega) a0 _ _ l1 (wrap64 (t481 - 1)) t482 _ ?side1 ?side2 A40.out).mono ?_); (case side1 => repeat (first | exact (Kd.C_below HR1.out (qB)) | (with_reducible refine Kd.C_alloc ?_ _) | (with_reducible refine Kd.C_drewN ?_ _) | (with_reducible refine Kd.C_drew ?_))); (case side2 => exact HC1.out); rintro e w47 ⟨v483, rfl, ho0, hb⟩; refine ⟨_, rfl, ?_⟩; have n0_ := Aside0.mk (Kd.R_below (qR HO457.out) hb); have n1_ := Aside0.mk (Kd.R_elder' (qR HO480.out) (Kd.R_base ho0) hb); have n2_ := Aside0.mk (Kd.R_lower (Kd.R_new' ho0 (Kd.R_lt (qR HO480.out))) (below_size (qB))); have n3_ := Aside0.mk (below_step (qB) hb); clear HO457; clear HO480; clear HB; have HO457 := n0_; have HO480 := n1_; have HO484 := n2_; have HB := n3_; clear n0_ n1_ n2_ n3_; (try clear hb); (try clear hb2); (try clear hk); (try clear hi); (try clear ho0); obtain ⟨Ao49, co49, eo49⟩ := Kd.R_slice HO480.out; subst eo49) | ((with_reducible refine gate_builtin (b := .append) (xs := #[.tmp 77, .tmp 78]) rfl ?_); at_builtin; refine Kd.R_append_rows k52 (w0 := w) w.heap.size rfl (.tmp 77) (.tmp 78) 26 52 (.agg #[(.int .i64 0), (.int .u64 0)]) 16 rfl Try.underlying26 info52 rfl (by decide) (by omega) v483 t482 t478 _ _ _ (fun k_ => some k_ ≠ (.slice Ao49 t478.length co49 : Value).ownBlock) (fun _ => False) rfl rfl ?aO ?aR (fun _ _ h => h) (fun _ h => h.elim) ?aF ?aB ?aS ?aL ?_; (case aR => repeat (first | exact (Kd.R_reads' HO480.out).2.2 | (with_reducible refine Kd.C_alloc ?_ _) | (with_reducible refine Kd.C_drewN ?_ _) | (with_reducible refine Kd.C_drew ?_))); (case aB => exact (qB)); (case aF => exact (fun k_ hk => Kd.fresh' (Kd.R_lt (qR HO480.out)) k_ hk)); (case aO => exact (by (with_reducible repeat (first | apply Kd.R_alloc | apply Kd.R_drewN | apply Kd.R_drew)); exact Kd.R_mono HO484.out (fun _ hk => hk.2))); (case aS => exact (below_size (qB))); (case aL => have := LMc41.out; omega); intro v486 w48 ho hb hg hat; rw [← Ny485.out] at ho; have n0_ := Aside0.mk (Kd.R_over' (qR HO457.out) (Kd.R_typed (qR HO484.out)) (by decide) hg); have n1_ := Aside0.mk (Kd.R_after (ok := (fun _ => True)) (qR HO480.out) hg hat); have n2_ := Aside0.mk (hb); have n3_ := Aside0.mk (ho); clear HO457; clear HO480; clear HB; clear HO484; have HO457 := n0_; have HO480 := n1_; have HB := n2_; have HO487 := n3_; clear n0_ n1_ n2_ n3_; clear ho hb hg hat; have p488 : 0 ≤ (a2 : Int) := qD; have q488 : a2 < (l1.length : Int) := qD; obtain ⟨ad488, e488, hx488_0, hx488_1⟩ := at_T52 HR1.out a2 p488 q488; obtain rfl : ad470 = ad488 := (by injection e488); replace hx488_0 := (HB.out.cell (World.block_lt_of_cell? w _ hx488_0)).trans hx488_0; replace hx488_1 := (HB.out.cell (World.block_lt_of_cell? w _ hx488_1)).trans hx488_1; replace p488 := eq_true p488; replace q488 := eq_true q488) | ((with_reducible refine gate_builtin (b := .append) (xs := #[.tmp 80, .tmp 85]) rfl ?_); at_builtin; refine Kd.R_append k52 (w0 := w) w.heap.size rfl (.tmp 80) (.tmp 85) 26 52 (.agg #[(.int .i64 0), (.int .u64 0)]) 16 rfl Try.underlying26 info52 rfl (by decide) (by omega) v486 y485 (⟨(rd_T52 l1 a2).f0, (rd_T52 l1 a2).f1⟩ : S52) [.int .i64 ((rd_T52 l1 a2).f0), .int .u64 ((rd_T52 l1 a2).f1)] (fun k_ => some k_ ≠ (.slice Ao49 t478.length co49 : Value).ownBlock) (fun _ => False) rfl rfl ?aP (fun _ hk => hk.elim) ?aF ?aO ?aB ?aS ?aL ?_; (case aP => exact k52_mkM _ _ _ (⟨(rd_T52 l1 a2).f0, (rd_T52 l1 a2).f1⟩ : S52)); (case aB => exact (qB)); (case aF => exact (fun k_ hk => Kd.fresh' (Kd.R_lt (qR HO480.out)) k_ hk)); (case aO => exact (qR HO487.out)); (case aS => exact (below_size (qB))); (case aL => have := LMc42.out; omega); intro v490 w50 ho hb hg hat; rw [← Ny489.out] at ho; have n0_ := Aside0.mk (Kd.R_over' (qR HO457.out) (Kd.R_typed (qR HO487.out)) (by decide) hg); have n1_ := Aside0.mk (Kd.R_after (ok := (fun _ => True)) (qR HO480.out) hg hat); have n2_ := Aside0.mk (hb); have n3_ := Aside0.mk (ho); clear HO457; clear HO480; clear HB; clear HO487; have HO457 := n0_; have HO480 := n1_; have HB := n2_; have HO491 := n3_; clear n0_ n1_ n2_ n3_; clear ho hb hg hat))
                      go_ret
                      exact ⟨_, qE, by (with_reducible repeat (first | apply Kd.R_alloc | apply Kd.R_drewN | apply Kd.R_drew)); exact Kd.R_mono HO491.out (fun _ hk => trivial), qB⟩
                    · rw [if_neg c42] at H
                      exact absurd H (by simp)
                  · rw [if_neg c41] at H
                    exact absurd H (by simp)
                · rw [if_neg c38] at H
                  have c38b0 : (t471 == 2) = false := beq_eq_false_iff_ne.mpr c38
                  have c38b1 : (t471 != 2) = true := bne_iff_ne.mpr c38
                  by_cases c51 : t478.length < 8796093022208
                  · rw [if_pos c51] at H
                    have LMc51 := Aside0.mk c51
                    clear c51
                    obtain ⟨y493, hy493⟩ : ∃ y_ : List (S52), y_ = (t478 ++ [(⟨(rd_T52 l1 a2).f0, (rd_T52 l1 a2).f1⟩ : S52)]) := ⟨_, rfl⟩
                    replace H : (some y493) = some r := qY hy493 H
                    have Ny493 := Aside0.mk hy493
                    clear hy493
                    obtain rfl := Option.some.inj H
                    go_enter Try.func40, Try.ntmps40
                    go_wp2_with (first | ((with_reducible refine gate_callee (f := 61) rfl ?_); refine goesL_ (some 18) rfl rfl Try.func61 (by kernel_rfl) rfl #[.slice A1 l1.length c1, .int .i64 a2] rfl qG ?_; (with_reducible refine (spec_l2From.calls k _ _ l1 a2 t450 _ ?side1 ?side2 A4.out).mono ?_); (case side1 => exact qC HR1.out); (case side2 => exact HC1.out); rintro e w' ⟨rfl, ⟨nd, rfl⟩⟩; refine ⟨_, rfl, ?_⟩; have q52 : ((wrap64 (a2 + 1)) : Int) ≤ ((l1.length : Int) : Int) := qD; obtain ⟨i052, hi052, _, hsz52, _⟩ := info_parts info52; have hroom52 : l1.length ≤ c1 := HC1.out; have hC52 : Kd.C k52 _ A1 l1.length l1 := HR1.out; have ql52 : (t450 : Int) ≤ ((wrap64 (a2 + 1)) : Int) := qD; have q052 : (0 : Int) ≤ (t450 : Int) := qD; have hcut52 := cut_mid (P := Try.prog) 26 52 .i64 .i64 Try.underlying26 hi052 2 hsz52 A1 l1.length c1 t450 (wrap64 (a2 + 1)) q052 ql52 q52 hroom52; have hr52 := Kd.C_mid (lo := (t450 : Int).toNat) (hi := ((wrap64 (a2 + 1)) : Int).toNat) (c := c1) hC52 (by omega) (by omega) hroom52; obtain ⟨A52, hA52⟩ : ∃ A_, A_ = (if c1 = (t450 : Int).toNat then A1 else (A1 : Option Addr).map (·.add ((t450 : Int).toNat * 2))) := ⟨_, rfl⟩; obtain ⟨c52, hc52⟩ : ∃ c_, c_ = c1 - (t450 : Int).toNat := ⟨_, rfl⟩; have hy52 : y451.length = ((wrap64 (a2 + 1)) : Int).toNat - (t450 : Int).toNat := (by rw [Ny451.out, List.length_drop, List.length_take] <;> omega); rw [show ((l1).take ((wrap64 (a2 + 1)) : Int).toNat).drop (t450 : Int).toNat = y451 from Ny451.out.symm] at hr52; replace hr52 : Kd.C k52 _ A52 y451.length y451 := (by rw [hA52]; exact hr52); rw [← hy52, ← hA52, ← hc52] at hcut52; have HR454 := Aside0.mk hr52; have HC454 := Aside0.mk (show y451.length ≤ c52 from by rw [hy52, hc52]; exact Nat.sub_le_sub_right (Nat.le_trans (by omega) hroom52) _); clear hr52 hC52 hroom52 hi052 hsz52 hc52; have KY52 := Aside0.mk hy52; have KA52 := Aside0.mk hA52; clear hy52 hA52; replace q52 := eq_true q52) | ((with_reducible refine gate_callee (f := 66) rfl ?_); refine goesL_ (some 24) rfl rfl Try.func66 (by kernel_rfl) rfl #[.slice A52 y451.length c52] rfl qG ?_; (with_reducible refine (spec_l2Vars.calls k _ _ y451 t455 _ ?side1 ?side2 A8.out).mono ?_); (case side1 => exact qC HR454.out); (case side2 => exact HC454.out); rintro e w53 ⟨v456, rfl, ho0, hb⟩; refine ⟨_, rfl, ?_⟩; have n0_ := Aside0.mk (Kd.R_lower ho0 (below_size (qB))); have n1_ := Aside0.mk (below_step (qB) hb); clear HB; have HO457 := n0_; have HB := n1_; clear n0_ n1_; (try clear hb); (try clear hb2); (try clear hk); (try clear hi); (try clear ho0); obtain ⟨Ao54, co54, eo54⟩ := Kd.R_slice HO457.out; subst eo54; have p470 : 0 ≤ (a2 : Int) := qD; have q470 : a2 < (l1.length : Int) := qD; obtain ⟨ad470, e470, hx470_0, hx470_1⟩ := at_T52 HR1.out a2 p470 q470; cases e470; replace hx470_0 := (HB.out.cell (World.block_lt_of_cell? w _ hx470_0)).trans hx470_0; replace hx470_1 := (HB.out.cell (World.block_lt_of_cell? w _ hx470_1)).trans hx470_1; replace p470 := eq_true p470; replace q470 := eq_true q470) | ((with_reducible refine gate_callee (f := 49) rfl ?_); refine goesL_ (some 52) rfl rfl Try.func49 (by kernel_rfl) rfl #[.int .i64 ((rd_T52 l1 a2).f0)] rfl qG ?_; (with_reducible refine (spec_l2Need.calls k ((rd_T52 l1 a2).f0) t471 t472 t473 _ A30.out).mono ?_); rintro e w' ⟨rfl, ⟨nd, rfl⟩⟩; refine ⟨_, rfl, ?_⟩) | ((with_reducible refine gate_callee (f := 40) rfl ?_); refine goesL_ (some 67) rfl rfl Try.func40 (by kernel_rfl) rfl #[.int .i64 a0, .slice (some ad470) l1.length c1, .int .i64 (wrap64 (a2 - 1))] rfl qG ?_; (with_reducible refine (ih k (by omega) a0 _ _ l1 (wrap64 (a2 - 1)) t478 _ ?side1 ?side2 A37.out).mono ?_); (case side1 => repeat (first | exact (Kd.C_below HR1.out (qB)) | (with_reducible refine Kd.C_alloc ?_ _) | (with_reducible refine Kd.C_drewN ?_ _) | (with_reducible refine Kd.C_drew ?_))); (case side2 => exact HC1.out); rintro e w55 ⟨v479, rfl, ho0, hb⟩; refine ⟨_, rfl, ?_⟩; have n0_ := Aside0.mk (Kd.R_below (qR HO457.out) hb); have n1_ := Aside0.mk (Kd.R_lower ho0 (below_size (qB))); have n2_ := Aside0.mk (below_step (qB) hb); clear HO457; clear HB; have HO457 := n0_; have HO480 := n1_; have HB := n2_; clear n0_ n1_ n2_; (try clear hb); (try clear hb2); (try clear hk); (try clear hi); (try clear ho0); have p492 : 0 ≤ (a2 : Int) := qD; have q492 : a2 < (l1.length : Int) := qD; obtain ⟨ad492, e492, hx492_0, hx492_1⟩ := at_T52 HR1.out a2 p492 q492; obtain rfl : ad470 = ad492 := (by injection e492); replace hx492_0 := (HB.out.cell (World.block_lt_of_cell? w _ hx492_0)).trans hx492_0; replace hx492_1 := (HB.out.cell (World.block_lt_of_cell? w _ hx492_1)).trans hx492_1; replace p492 := eq_true p492; replace q492 := eq_true q492) | ((with_reducible refine gate_builtin (b := .append) (xs := #[.tmp 80, .tmp 85]) rfl ?_); at_builtin; refine Kd.R_append k52 (w0 := w) w.heap.size rfl (.tmp 80) (.tmp 85) 26 52 (.agg #[(.int .i64 0), (.int .u64 0)]) 16 rfl Try.underlying26 info52 rfl (by decide) (by omega) v479 t478 (⟨(rd_T52 l1 a2).f0, (rd_T52 l1 a2).f1⟩ : S52) [.int .i64 ((rd_T52 l1 a2).f0), .int .u64 ((rd_T52 l1 a2).f1)] (fun _ => True) (fun _ => False) rfl rfl ?aP (fun _ hk => hk.elim) ?aF ?aO ?aB ?aS ?aL ?_; (case aP => exact k52_mkM _ _ _ (⟨(rd_T52 l1 a2).f0, (rd_T52 l1 a2).f1⟩ : S52)); (case aB => exact (qB)); (case aF => exact (fun _ _ => trivial)); (case aO => exact (qR HO480.out)); (case aS => exact (below_size (qB))); (case aL => have := LMc51.out; omega); intro v494 w56 ho hb hg hat; rw [← Ny493.out] at ho; have n0_ := Aside0.mk (Kd.R_over' (qR HO457.out) (Kd.R_typed (qR HO480.out)) (by decide) hg); have n1_ := Aside0.mk (hb); have n2_ := Aside0.mk (ho); clear HO457; clear HB; clear HO480; have HO457 := n0_; have HB := n1_; have HO495 := n2_; clear n0_ n1_ n2_; clear ho hb hg hat))
                    go_ret
                    exact ⟨_, qE, qR HO495.out, qB⟩
                  · rw [if_neg c51] at H
                    exact absurd H (by simp)
            · rw [if_neg c29] at H
              exact absurd H (by simp)
          · rw [if_neg c28] at H
            exact absurd H (by simp)
      · rw [if_neg c7] at H
        exact absurd H (by simp)
    · rw [if_neg c6] at H
      exact absurd H (by simp)
  · rw [if_neg c5] at H
    exact absurd H (by simp)

/-! ### spec_FoldTerm: function 22 -/
def spec_FoldTerm.f (k : Nat) (a0 : Int) (a1 : Int) (l2 : List (S52)) : Option ((List (S52)) × Bool) := (spec_GoodTerm.f k a0 a1 l2).bind fun t496 => (if t496 = true then ((spec_l2Fold.f k a0 l2 (wrap64 ((l2.length : Int) - 1))).bind fun t497 => (some (t497, true))) else (some (([] : List (S52)), false)))
theorem spec_FoldTerm.mono : ∀ a0 a1 a2 k, LeO (spec_FoldTerm.f k a0 a1 a2) (spec_FoldTerm.f (k + 1) a0 a1 a2) := by
  intro a0 a1 a2 k
  unfold spec_FoldTerm.f
  repeat' first
      | (with_reducible exact spec_GoodTerm.mono _ _ _ _)
      | (with_reducible exact spec_l2Fold.mono _ _ _ _)
      | (with_reducible exact LeO.refl _)
      | (with_reducible exact LeO.none _)
      | (with_reducible refine LeO.ite ?_ ?_)
      | (with_reducible refine LeO.bind ?_ (fun _ => ?_))
      | exact spec_GoodTerm.mono _ _ _ _
      | exact spec_l2Fold.mono _ _ _ _
      | exact LeO.none _
      | refine LeO.ite ?_ ?_
      | refine LeO.bind ?_ (fun _ => ?_)
set_option maxHeartbeats 8000000 in
set_option maxRecDepth 100000 in
theorem spec_FoldTerm.calls (k : Nat) (a0 : Int) (a1 : Int) (A2 : Option Addr) (c2 : Nat) (l2 : List (S52)) (r1 : List (S52)) (r2 : Bool) (w : World) (hr2 : Kd.C k52 w A2 l2.length l2) (hc2 : l2.length ≤ c2) (h : spec_FoldTerm.f k a0 a1 l2 = some (r1, r2)) :
    Calls Try.prog 22 #[.int .i64 a0, .int .i64 a1, .slice A2 l2.length c2] w fun e w' => ∃ v0_ : Value, e = .returned (.tuple #[v0_, .bool r2]) ∧ Kd.R k52 52 w' w.heap.size (fun _ => True) v0_ r1 ∧ Below w.heap.size w w' := by
  have HR2 := Aside0.mk hr2
  have HC2 := Aside0.mk hc2
  clear hr2 hc2
  have HB := Aside0.mk (Below.refl w.heap.size w)
  have H : ((spec_GoodTerm.f k a0 a1 l2).bind fun t496 => (if t496 = true then ((spec_l2Fold.f k a0 l2 (wrap64 ((l2.length : Int) - 1))).bind fun t497 => (some (t497, true))) else (some (([] : List (S52)), false)))) = some (r1, r2) := h
  clear h
  replace H := Option.bind_eq_some_iff.mp H
  obtain ⟨t496, A40, H⟩ := H
  replace H : (if t496 = true then ((spec_l2Fold.f k a0 l2 (wrap64 ((l2.length : Int) - 1))).bind fun t497 => (some (t497, true))) else (some (([] : List (S52)), false))) = some (r1, r2) := H
  have A4 := Aside0.mk A40
  clear A40
  by_cases c5 : t496 = true
  · subst c5
    have H1 : ((spec_l2Fold.f k a0 l2 (wrap64 ((l2.length : Int) - 1))).bind fun t497 => (some (t497, true))) = some (r1, r2) := by rw [if_pos rfl] at H; exact H
    clear H
    have H := H1
    clear H1
    replace H := Option.bind_eq_some_iff.mp H
    obtain ⟨t497, A60, H⟩ := H
    replace H : (some (t497, true)) = some (r1, r2) := H
    have A6 := Aside0.mk A60
    clear A60
    simp only [Option.some.injEq, Prod.mk.injEq] at H
    obtain ⟨rfl, rfl⟩ := H
    go_enter Try.func22, Try.ntmps22
    go_wp2_with (first | ((with_reducible refine gate_callee (f := 26) rfl ?_); refine goesL_ (some 11) rfl rfl Try.func26 (by kernel_rfl) rfl #[.int .i64 a0, .int .i64 a1, .slice A2 l2.length c2] rfl qG ?_; (with_reducible refine (spec_GoodTerm.calls k a0 a1 _ _ l2 true _ ?side1 ?side2 A4.out).mono ?_); (case side1 => exact qC HR2.out); (case side2 => exact HC2.out); rintro e w7 ⟨rfl, hb⟩; refine ⟨_, rfl, ?_⟩; have n0_ := Aside0.mk (below_step (qB) hb); clear HB; have HB := n0_; clear n0_; (try clear hb); (try clear hb2); (try clear hk); (try clear hi)) | ((with_reducible refine gate_callee (f := 40) rfl ?_); refine goesL_ (some 18) rfl rfl Try.func40 (by kernel_rfl) rfl #[.int .i64 a0, .slice A2 l2.length c2, .int .i64 (wrap64 ((l2.length : Int) - 1))] rfl qG ?_; (with_reducible refine (spec_l2Fold.calls k a0 _ _ l2 (wrap64 ((l2.length : Int) - 1)) t497 _ ?side1 ?side2 A6.out).mono ?_); (case side1 => exact qC (Kd.C_below HR2.out HB.out)); (case side2 => exact HC2.out); rintro e w8 ⟨v498, rfl, ho0, hb⟩; refine ⟨_, rfl, ?_⟩; have n0_ := Aside0.mk (Kd.R_lower ho0 (below_size (qB))); have n1_ := Aside0.mk (below_step (qB) hb); clear HB; have HO499 := n0_; have HB := n1_; clear n0_ n1_; (try clear hb); (try clear hb2); (try clear hk); (try clear hi); (try clear ho0)))
    go_ret2
    exact ⟨_, qE, qR HO499.out, qB⟩
  · replace c5 := Bool.eq_false_iff.mpr c5
    subst c5
    have H1 : (some (([] : List (S52)), false)) = some (r1, r2) := by rw [if_neg (show ¬ (false = true) by decide)] at H; exact H
    clear H
    have H := H1
    clear H1
    simp only [Option.some.injEq, Prod.mk.injEq] at H
    obtain ⟨rfl, rfl⟩ := H
    go_enter Try.func22, Try.ntmps22
    go_wp2_with (first | ((with_reducible refine gate_callee (f := 26) rfl ?_); refine goesL_ (some 11) rfl rfl Try.func26 (by kernel_rfl) rfl #[.int .i64 a0, .int .i64 a1, .slice A2 l2.length c2] rfl qG ?_; (with_reducible refine (spec_GoodTerm.calls k a0 a1 _ _ l2 false _ ?side1 ?side2 A4.out).mono ?_); (case side1 => exact qC HR2.out); (case side2 => exact HC2.out); rintro e w9 ⟨rfl, hb⟩; refine ⟨_, rfl, ?_⟩; have n0_ := Aside0.mk (below_step (qB) hb); clear HB; have HB := n0_; clear n0_; (try clear hb); (try clear hb2); (try clear hk); (try clear hi)))
    go_ret2
    exact ⟨_, qE, by first | exact Kd.R_nil _ _ _ _ _ | exact Kd.N_nil _ _ _ _ _ | exact Kd.V_nil _ _ _ _ _ | exact Kd.Q_nil _ _ _ _ _ | exact Kd.S_nil _ _ _ _ _, qB⟩

-- HAND
/-! ### impl_varsIn: function 67 -/
-- IMPORT Derived.Sort.OwnSortedInts
-- IMPORT Derived.Test.YtckdgmbmjfhodaaShelf
/-- slices.Sort of a row of numbers of the call's own. -/
theorem sort_own {base : Nat} {ok : Nat → Prop} {v : Value} {xs : List Int} {w : World} (hR : Kd.R (Kd.int .i64) 3 w base ok v xs) (hl : xs.length < 4611686018427387904) :
    Calls Try.prog 79 #[v] w fun e w' => e = .returned (.tuple #[]) ∧ Kd.R (Kd.int .i64) 3 w' base ok v (xs.mergeSort fun x y => decide (x ≤ y)) ∧ w.grownBy w' v.ownBlock := by
  have hown : w.ownsRow base 3 1 v xs.length (encs (Value.int .i64) xs) := Kd.own_of_R hR
  rcases hown.2 with ⟨rfl, h0⟩ | ⟨g, cap, cur, rfl, hg, hb, hn, hcap, hcs, ht⟩
  · obtain rfl : xs = [] := List.eq_nil_of_length_eq_zero h0
    refine (Try.slices_Sort_int_none none 0 w).mono ?_
    rintro e w' ⟨rfl, rfl⟩
    exact ⟨rfl, by simpa using hR, ⟨rfl, rfl, rfl, Nat.le_refl _, fun _ _ _ => rfl⟩⟩
  · have hH := holds_of_blockI hb (ss := xs) (by simpa [encs] using ht)
    refine (Try.slices_Sort_int g 0 cap xs w hH (blk_lt hb) hl).mono ?_
    rintro e w' ⟨rfl, n, os, rfl⟩
    have hlen : (xs.mergeSort fun x y => decide (x ≤ y)).length = xs.length := List.length_mergeSort _
    have h2 := ownsRow_sortedI (n := n) (os := os) (ss := xs) (ts := xs.mergeSort fun x y => decide (x ≤ y)) hlen hg hb hn hcap hcs
    refine ⟨rfl, ?_, grownBy_sortedI _⟩
    rw [← hlen] at h2 ⊢
    exact Kd.R_of_own h2 hR.1
/-- slices.Compact of a row of numbers of the call's own. -/
theorem compact_own {base : Nat} {ok : Nat → Prop} {v : Value} {xs : List Int} {w : World} (hR : Kd.R (Kd.int .i64) 3 w base ok v xs) (hl : xs.length < 4611686018427387904) :
    Calls Try.prog 80 #[v] w fun e w' => ∃ v', e = .returned v' ∧ Kd.R (Kd.int .i64) 3 w' base ok v' (Lib.compact xs) ∧ w.grownBy w' v.ownBlock := by
  have hown : w.ownsRow base 3 1 v xs.length (encs (Value.int .i64) xs) := Kd.own_of_R hR
  rcases hown.2 with ⟨rfl, h0⟩ | ⟨g, cap, cur, rfl, hg, hb, hn, hcap, hcs, ht⟩
  · obtain rfl : xs = [] := List.eq_nil_of_length_eq_zero h0
    refine (Try.slices_Compact_int_empty none 0 w).mono ?_
    rintro e w' ⟨rfl, rfl⟩
    exact ⟨_, rfl, hR, ⟨rfl, rfl, rfl, Nat.le_refl _, fun _ _ _ => rfl⟩⟩
  · have hH := holds_of_blockI hb (ss := xs) (by simpa [encs] using ht)
    refine (Try.slices_Compact_int g 0 cap xs w hH (by omega) hn).mono ?_
    rintro e w' ⟨rfl, q, rfl⟩
    have hc := Lib.compact_length_le xs
    obtain ⟨ts, hts⟩ : ∃ ts, Lib.compact xs ++ List.replicate (xs.length - (Lib.compact xs).length) 0 = ts := ⟨_, rfl⟩
    have hlen : ts.length = xs.length := by rw [← hts]; simp; omega
    rw [hts]
    have h2 := ownsRow_sortedI (n := q) (os := #[]) (ss := xs) (ts := ts) hlen hg hb hn hcap hcs
    have h3 := grownBy_sortedI (w := w) (g := g) (n := q) (os := #[]) ts.toArray
    rw [Go.Sort.grow_empty] at h2 h3
    refine ⟨_, rfl, ?_, h3⟩
    have h4 := Kd.R_take (Kd.R_of_own (ok := ok) (h1 := fun _ => rfl) (xs := ts) (enc := Value.int .i64) (by rw [hlen]; exact h2) hR.1) (m := (Lib.compact xs).length) (by omega)
    have h5 : ts.take (Lib.compact xs).length = Lib.compact xs := by rw [← hts, List.take_left' rfl]
    rw [h5] at h4
    exact h4
/-- The variables of a term's nodes, as they come. -/
def varsAt (l : List S52) : List Int := (l.filter fun x => x.f0 == 2).map fun x => wrap64 x.f1
theorem varsAt_snoc (l : List S52) (kk : Nat) (h : kk < l.length) : varsAt (l.take (kk + 1)) = varsAt (l.take kk) ++ (if l[kk].f0 = 2 then [wrap64 l[kk].f1] else []) := by
  unfold varsAt
  rw [List.take_add_one, List.getElem?_eq_getElem h, Option.toList_some, List.filter_append, List.map_append]
  congr 1
  by_cases hq : l[kk].f0 = 2
  · simp [hq]
  · simp [hq]
theorem varsAt_len (l : List S52) : (varsAt l).length ≤ l.length := by
  unfold varsAt; rw [List.length_map]; exact List.length_filter_le _ _
/-- 'varsIn': the variables, sorted, each once. -/
def impl_varsIn.f (l0 : List (S52)) : Option (List Int) := if l0.length ≤ 1000000 then some (Lib.compact ((varsAt l0).mergeSort fun x y => decide (x ≤ y))) else none
set_option maxHeartbeats 8000000 in
theorem impl_varsIn.calls (A0 : Option Addr) (c0 : Nat) (l0 : List (S52)) (r : List Int) (w : World) (hr0 : Kd.C k52 w A0 l0.length l0) (hc0 : l0.length ≤ c0) (h : impl_varsIn.f l0 = some r) :
    Calls Try.prog 67 #[.slice A0 l0.length c0] w fun e w' => ∃ v0_ : Value, e = .returned (v0_) ∧ Kd.R (Kd.int .i64) 3 w' w.heap.size (fun _ => True) v0_ r ∧ Below w.heap.size w w' := by
  unfold impl_varsIn.f at h
  split at h
  case isFalse => cases h
  rename_i hlen
  obtain rfl := Option.some.inj h
  have HR := Aside0.mk hr0
  clear hr0 h
  go_enter Try.func67, Try.ntmps67
  go_wp2
  go_loopg [3, 9] l0.length (fun gg v3 v9 wr => ∃ kk : Nat, kk ≤ l0.length ∧ l0.length - kk ≤ gg ∧ v9 = .int .i64 kk ∧ Aside0 (Kd.R (Kd.int .i64) 3 wr w.heap.size (fun _ => True) v3 (varsAt (l0.take kk))) ∧ Aside0 (Below w.heap.size w wr))
  case atStart =>
    have h0 : (w.alloc (.cells #[] 3)).ownsRow w.heap.size 3 1 (.slice (some ⟨w.heap.size, 0, none⟩) 0 0) 0 [] := ⟨rfl, .inr ⟨_, 0, #[], rfl, Nat.le_refl _, by unfold World.alloc; simp, Nat.le_refl _, by simp [maxLen], rfl, rfl⟩⟩
    exact ⟨0, Nat.zero_le _, by omega, rfl, ⟨Kd.R_of_own (enc := Value.int .i64) (xs := []) h0 (fun _ _ => trivial)⟩, ⟨(Below.refl _ _).alloc (Nat.le_refl _) _⟩⟩
  case round =>
    obtain ⟨kk, hkk, hg, rfl, HV, HB⟩ := hrel
    by_cases hlt : kk < l0.length
    · have hltz : (kk : Int) < (l0.length : Int) := by omega
      obtain ⟨ad, e, hx0, hx1⟩ := at_T52 HR.out (kk : Int) (by omega) hltz
      cases e
      replace hx0 := (HB.out.cell (World.block_lt_of_cell? w _ hx0)).trans hx0
      replace hx1 := (HB.out.cell (World.block_lt_of_cell? w _ hx1)).trans hx1
      have hget : rd_T52 l0 (kk : Int) = l0[kk] := by unfold rd_T52; rw [Int.toNat_natCast, List.getD_eq_getElem?_getD, List.getElem?_eq_getElem hlt]; rfl
      have hs := varsAt_snoc l0 kk hlt
      rw [← hget] at hs
      obtain ⟨y, hy⟩ : ∃ y, rd_T52 l0 (kk : Int) = y := ⟨_, rfl⟩
      rw [hy] at hx0 hx1 hs
      clear hy hget
      rw [Int.toNat_natCast] at hx0 hx1
      have hvl := varsAt_len (l0.take kk)
      rw [List.length_take] at hvl
      by_cases hq : y.f0 = 2
      · rw [if_pos hq] at hs
        have HS := Aside0.mk hs
        have hq0 : (y.f0 == 2) = true := beq_iff_eq.mpr hq
        clear hs hq
        obtain ⟨A2, c2, e2⟩ := Kd.R_slice HV.out
        subst e2
        go_wp2_with ((with_reducible refine gate_builtin (b := .append) (xs := #[.tmp 16, .tmp 20]) rfl ?_); at_builtin; refine Kd.R_append (Kd.int .i64) (w0 := w) w.heap.size rfl (.tmp 16) (.tmp 20) 71 3 (.int .i64 0) 8 rfl Try.underlying71 info3 rfl (by decide) (by omega) _ (varsAt (l0.take kk)) (wrap64 y.f1) [.int .i64 (wrap64 y.f1)] (fun _ => True) (fun _ => False) rfl (by first | (go_simp; done) | (go_simp; rfl)) ?aP (fun _ hk => hk.elim) ?aF ?aO ?aB ?aS ?aL ?_; (case aP => exact rfl); (case aF => exact fun _ _ => trivial); (case aO => (with_reducible repeat (first | apply Kd.R_alloc | apply Kd.R_drewN | apply Kd.R_drew)); exact HV.out); (case aB => repeat (first | (with_reducible first | exact HB.out | apply below_alloc | apply pw_below_drewN | apply below_drew1) | exact HB.out)); (case aS => exact below_size (qB)); (case aL => omega); intro v3 w3 hv hb hg_ ha_; clear hg_ ha_; have HV3 := Aside0.mk hv; have HB3 := Aside0.mk hb; clear hv hb)
        go_roundg (l0.length - (kk + 1))
        case measure => omega
        case rel => exact ⟨kk + 1, by omega, by omega, by go_num, ⟨by rw [HS.out]; exact HV3.out⟩, HB3⟩
      · rw [if_neg hq, List.append_nil] at hs
        have HS := Aside0.mk hs
        have hq0 : (y.f0 == 2) = false := beq_eq_false_iff_ne.mpr hq
        clear hs hq
        go_wp2
        go_roundg (l0.length - (kk + 1))
        case measure => omega
        case rel => exact ⟨kk + 1, by omega, by omega, by go_num, ⟨by rw [HS.out]; (with_reducible repeat (first | apply Kd.R_alloc | apply Kd.R_drewN | apply Kd.R_drew)); exact HV.out⟩, ⟨qB⟩⟩
    · have hltz : ¬ (kk : Int) < (l0.length : Int) := by omega
      obtain rfl : kk = l0.length := by omega
      rw [List.take_length] at HV
      have hvl := varsAt_len l0
      have hsl : ((varsAt l0).mergeSort fun x y => decide (x ≤ y)).length = (varsAt l0).length := List.length_mergeSort _
      have hS := sort_own HV.out (by omega)
      have hbase : w.heap.size ≤ wr.heap.size := below_size HB.out
      have hb0 := Kd.R_base HV.out
      go_wp2_with (first | (go_at_call 79; refine hS.mono ?_; rintro e w1 ⟨rfl, hv, hgr⟩; have HV1 := Aside0.mk hv; have HB1 := Aside0.mk (HB.out.grown hgr hbase hb0); clear hv hgr hS) | (go_at_call 80; refine (compact_own HV1.out (by omega)).mono ?_; rintro e w2 ⟨v2, rfl, hv, hgr⟩; have HV2 := Aside0.mk hv; have HB2 := Aside0.mk (HB1.out.grown hgr (below_size HB1.out) (Kd.R_base HV1.out)); clear hv hgr))
      go_ret
      exact ⟨_, rfl, HV2.out, HB2.out⟩


/-! ### impl_startOf: function 68 -/
mutual
def impl_startOf.l0 : Nat → List (S52) → Int → Int → Int → Option (Int)
  | 0, _, _, _, _ => none
  | k + 1, x0, x8, x20, x21 => if x21 < x20 then ((impl_startOf.f k x0 (wrap64 (x8 - 1))).bind fun t637 => (impl_startOf.l0 k x0 t637 x20 (wrap64 (x21 + 1)))) else (some x8)
def impl_startOf.f : Nat → List (S52) → Int → Option (Int)
  | 0, _, _ => none
  | k + 1, l0, a1 => if 0 ≤ a1 then (if a1 < (l0.length : Int) then ((impl_operandsOf.f k ((rd_T52 l0 a1).f0)).bind fun bt634 => (impl_startOf.l0 k l0 a1 bt634.1 0)) else (none)) else (none)
end
theorem impl_startOf.mono_l : ∀ k, (∀ y0 y1, LeO (impl_startOf.f k y0 y1) (impl_startOf.f (k + 1) y0 y1)) ∧ (∀ y0 y1 y2 y3, LeO (impl_startOf.l0 k y0 y1 y2 y3) (impl_startOf.l0 (k + 1) y0 y1 y2 y3))
  | 0 => ⟨fun _ _ r h => by simp [impl_startOf.f] at h, fun _ _ _ _ r h => by simp [impl_startOf.l0] at h⟩
  | k + 1 => by
    obtain ⟨ih0, ih1⟩ := impl_startOf.mono_l k
    refine ⟨?_, ?_⟩
    · intro y0 y1
      unfold impl_startOf.f
      repeat' first
      | (with_reducible exact ih0 _ _)
      | (with_reducible exact ih1 _ _ _ _)
      | (with_reducible exact impl_operandsOf.mono _ _)
      | (with_reducible exact LeO.refl _)
      | (with_reducible exact LeO.none _)
      | (with_reducible refine LeO.ite ?_ ?_)
      | (with_reducible refine LeO.bind ?_ (fun _ => ?_))
      | exact ih0 _ _
      | exact ih1 _ _ _ _
      | exact impl_operandsOf.mono _ _
      | exact LeO.none _
      | refine LeO.ite ?_ ?_
      | refine LeO.bind ?_ (fun _ => ?_)
    · intro y0 y1 y2 y3
      unfold impl_startOf.l0
      repeat' first
      | (with_reducible exact ih0 _ _)
      | (with_reducible exact ih1 _ _ _ _)
      | (with_reducible exact impl_operandsOf.mono _ _)
      | (with_reducible exact LeO.refl _)
      | (with_reducible exact LeO.none _)
      | (with_reducible refine LeO.ite ?_ ?_)
      | (with_reducible refine LeO.bind ?_ (fun _ => ?_))
      | exact ih0 _ _
      | exact ih1 _ _ _ _
      | exact impl_operandsOf.mono _ _
      | exact LeO.none _
      | refine LeO.ite ?_ ?_
      | refine LeO.bind ?_ (fun _ => ?_)
theorem impl_startOf.mono : ∀ a0 a1 k, LeO (impl_startOf.f k a0 a1) (impl_startOf.f (k + 1) a0 a1) := by
  intro a0 a1 k
  obtain ⟨ih0, ih1⟩ := impl_startOf.mono_l k
  exact ih0 a0 a1
set_option maxHeartbeats 8000000 in
set_option maxRecDepth 100000 in
theorem impl_startOf.calls (k : Nat) : ∀ (A0 : Option Addr) (c0 : Nat) (l0 : List (S52)) (a1 : Int) (r : Int) (w : World) (hr0 : Kd.C k52 w A0 l0.length l0) (hc0 : l0.length ≤ c0) (h : impl_startOf.f k l0 a1 = some r),
    Calls Try.prog 68 #[.slice A0 l0.length c0, .int .i64 a1] w fun e w' => e = .returned (.int .i64 r) ∧ Drawn0 w w' := by
  induction k using Nat.strongRecOn with
  | _ k ih =>
  intro A0 c0 l0 a1 r w hr0 hc0 h
  cases k with
  | zero => exact absurd h (by simp [impl_startOf.f])
  | succ k =>
  simp only [impl_startOf.f] at h
  have HR0 := Aside0.mk hr0
  have HC0 := Aside0.mk hc0
  clear hr0 hc0
  have H : (if 0 ≤ a1 then (if a1 < (l0.length : Int) then ((impl_operandsOf.f k ((rd_T52 l0 a1).f0)).bind fun bt634 => (impl_startOf.l0 k l0 a1 bt634.1 0)) else (none)) else (none)) = some r := h
  clear h
  by_cases c3 : 0 ≤ a1
  · rw [if_pos c3] at H
    have c3b0 : decide (0 ≤ a1) = true := decide_eq_true c3
    clear c3
    by_cases c4 : a1 < (l0.length : Int)
    · rw [if_pos c4] at H
      have c4b0 : decide (a1 < (l0.length : Int)) = true := decide_eq_true c4
      clear c4
      replace H := Option.bind_eq_some_iff.mp H
      obtain ⟨⟨t634, t635, t636⟩, A50, H⟩ := H
      replace H : (impl_startOf.l0 k l0 a1 t634 0) = some r := H
      have A5 := Aside0.mk A50
      clear A50
      have H' := Aside0.mk H
      clear H
      have p633 : 0 ≤ (a1 : Int) := qD
      have q633 : a1 < (l0.length : Int) := qD
      obtain ⟨ad633, e633, hx633_0, hx633_1⟩ := at_T52 HR0.out a1 p633 q633
      cases e633
      replace p633 := eq_true p633
      replace q633 := eq_true q633
      go_enter Try.func68, Try.ntmps68
      go_wp2_with (first | ((with_reducible refine gate_callee (f := 53) rfl ?_); refine goesL_ (some 15) rfl rfl Try.func53 (by kernel_rfl) rfl #[.int .i64 ((rd_T52 l0 a1).f0)] rfl qG ?_; (with_reducible refine (impl_operandsOf.calls k ((rd_T52 l0 a1).f0) t634 t635 t636 _ A5.out).mono ?_); rintro e w' ⟨rfl, ⟨nd, rfl⟩⟩; refine ⟨_, rfl, ?_⟩))
      go_loopg [8, 21] k (fun kq v8 v21 w' => ∃ (x8_1 : Int) (x21_1 : Int), v8 = .int .i64 x8_1 ∧ v21 = .int .i64 x21_1 ∧ Aside0 (impl_startOf.l0 kq l0 x8_1 t634 x21_1 = some r) ∧ Aside0 (kq ≤ k) ∧ Drawn0 w w')
      case atStart => exact ⟨(a1), (0), qS, qS, H', ⟨Nat.le_refl _⟩, by repeat (first | exact Drawn0.refl _ | apply Drawn0.step)⟩
      case round =>
        clear H'
        try clear p2
        try clear c3
        try clear c3b0
        try clear c4
        try clear c4b0
        try clear c5
        try clear hx633_0
        try clear hx633_1
        try clear p633
        try clear q633
        obtain ⟨x8_1, x21_1, rfl, rfl, HA, HK1, ⟨m1, rfl⟩⟩ := hrel
        cases gk with
        | zero => exact absurd HA.out (by simp [impl_startOf.l0])
        | succ k1 =>
          have H := HA.out
          clear HA
          simp only [impl_startOf.l0] at H
          by_cases c6 : x21_1 < t634
          · rw [if_pos c6] at H
            have c6b0 : decide (x21_1 < t634) = true := decide_eq_true c6
            clear c6
            replace H := Option.bind_eq_some_iff.mp H
            obtain ⟨t637, A70, H⟩ := H
            replace H : (impl_startOf.l0 k1 l0 t637 t634 (wrap64 (x21_1 + 1))) = some r := H
            have A7 := Aside0.mk A70
            clear A70
            have H' := Aside0.mk H
            clear H
            go_wp2_with (first | ((with_reducible refine gate_callee (f := 68) rfl ?_); refine goesL_ (some 26) rfl rfl Try.func68 (by kernel_rfl) rfl #[.slice (some ad633) l0.length c0, .int .i64 (wrap64 (x8_1 - 1))] rfl qG ?_; (with_reducible refine (ih k1 (by have := HK1.out; omega) _ _ l0 (wrap64 (x8_1 - 1)) t637 _ ?side1 ?side2 A7.out).mono ?_); (case side1 => exact qC HR0.out); (case side2 => exact HC0.out); rintro e w' ⟨rfl, ⟨nd, rfl⟩⟩; refine ⟨_, rfl, ?_⟩))
            go_roundg k1
            case measure => have := HK1.out; omega
            case rel => exact ⟨(t637), (wrap64 (x21_1 + 1)), qS, qS, H', ⟨by have := HK1.out; omega⟩, by repeat (first | exact Drawn0.refl _ | apply Drawn0.step)⟩
          · rw [if_neg c6] at H
            have c6b0 : decide (x21_1 < t634) = false := decide_eq_false c6
            clear c6
            obtain rfl := Option.some.inj H
            go_wp2
            go_ret
            exact ⟨by first | rfl | (simp; done) | (simp [*]; done), by repeat (first | exact Drawn0.refl _ | apply Drawn0.step)⟩
    · rw [if_neg c4] at H
      exact absurd H (by simp)
  · rw [if_neg c3] at H
    exact absurd H (by simp)

/-! ### impl_fold: function 41 -/
mutual
def impl_fold.l0 : Nat → Int → List (S52) → List (S52) → Int → Option ((List (S52)))
  | 0, _, _, _, _ => none
  | k + 1, x0, x1, x7, x8 => if x8 > 0 then ((impl_startOf.f k x1 (wrap64 (x8 - 1))).bind fun t654 => (if 0 ≤ t654 then (if t654 ≤ x8 then (if x8 ≤ (x1.length : Int) then ((impl_fold.f k x0 ((x1.take (x8 : Int).toNat).drop (t654 : Int).toNat)).bind fun t659 => (if t659.length + x7.length < 8796093022208 then (impl_fold.l0 k x0 x1 (t659 ++ x7) t654) else (none))) else (none)) else (none)) else (none))) else (some x7)
def impl_fold.f : Nat → Int → List (S52) → Option ((List (S52)))
  | 0, _, _ => none
  | k + 1, a0, l1 => (impl_varsIn.f l1).bind fun t638 => (if (t638.length : Int) = 0 then ((impl_kindOf.f k l1).bind fun t641 => (if t641 = 2 then ((impl_valueOf.f k a0 l1 ([] : List Int)).bind fun t642 => (some (([(⟨20, t642⟩ : S52)] : List (S52))))) else ((impl_valueOf.f k a0 l1 ([] : List Int)).bind fun t646 => (some (([(⟨1, t646⟩ : S52)] : List (S52))))))) else (if 0 ≤ (wrap64 ((l1.length : Int) - 1)) then (if (wrap64 ((l1.length : Int) - 1)) < (l1.length : Int) then (impl_fold.l0 k a0 l1 (([(⟨(rd_T52 l1 (wrap64 ((l1.length : Int) - 1))).f0, (rd_T52 l1 (wrap64 ((l1.length : Int) - 1))).f1⟩ : S52)] : List (S52))) (wrap64 ((l1.length : Int) - 1))) else (none)) else (none)))
end
theorem impl_fold.mono_l : ∀ k, (∀ y0 y1, LeO (impl_fold.f k y0 y1) (impl_fold.f (k + 1) y0 y1)) ∧ (∀ y0 y1 y2 y3, LeO (impl_fold.l0 k y0 y1 y2 y3) (impl_fold.l0 (k + 1) y0 y1 y2 y3))
  | 0 => ⟨fun _ _ r h => by simp [impl_fold.f] at h, fun _ _ _ _ r h => by simp [impl_fold.l0] at h⟩
  | k + 1 => by
    obtain ⟨ih0, ih1⟩ := impl_fold.mono_l k
    refine ⟨?_, ?_⟩
    · intro y0 y1
      unfold impl_fold.f
      repeat' first
      | (with_reducible exact ih0 _ _)
      | (with_reducible exact ih1 _ _ _ _)
      | (with_reducible exact impl_kindOf.mono _ _)
      | (with_reducible exact impl_startOf.mono _ _ _)
      | (with_reducible exact impl_valueOf.mono _ _ _ _)
      | (with_reducible exact LeO.refl _)
      | (with_reducible exact LeO.none _)
      | (with_reducible refine LeO.ite ?_ ?_)
      | (with_reducible refine LeO.bind ?_ (fun _ => ?_))
      | exact ih0 _ _
      | exact ih1 _ _ _ _
      | exact impl_kindOf.mono _ _
      | exact impl_startOf.mono _ _ _
      | exact impl_valueOf.mono _ _ _ _
      | exact LeO.none _
      | refine LeO.ite ?_ ?_
      | refine LeO.bind ?_ (fun _ => ?_)
    · intro y0 y1 y2 y3
      unfold impl_fold.l0
      repeat' first
      | (with_reducible exact ih0 _ _)
      | (with_reducible exact ih1 _ _ _ _)
      | (with_reducible exact impl_kindOf.mono _ _)
      | (with_reducible exact impl_startOf.mono _ _ _)
      | (with_reducible exact impl_valueOf.mono _ _ _ _)
      | (with_reducible exact LeO.refl _)
      | (with_reducible exact LeO.none _)
      | (with_reducible refine LeO.ite ?_ ?_)
      | (with_reducible refine LeO.bind ?_ (fun _ => ?_))
      | exact ih0 _ _
      | exact ih1 _ _ _ _
      | exact impl_kindOf.mono _ _
      | exact impl_startOf.mono _ _ _
      | exact impl_valueOf.mono _ _ _ _
      | exact LeO.none _
      | refine LeO.ite ?_ ?_
      | refine LeO.bind ?_ (fun _ => ?_)
theorem impl_fold.mono : ∀ a0 a1 k, LeO (impl_fold.f k a0 a1) (impl_fold.f (k + 1) a0 a1) := by
  intro a0 a1 k
  obtain ⟨ih0, ih1⟩ := impl_fold.mono_l k
  exact ih0 a0 a1
set_option maxHeartbeats 8000000 in
set_option maxRecDepth 100000 in
theorem impl_fold.calls (k : Nat) : ∀ (a0 : Int) (A1 : Option Addr) (c1 : Nat) (l1 : List (S52)) (r : List (S52)) (w : World) (hr1 : Kd.C k52 w A1 l1.length l1) (hc1 : l1.length ≤ c1) (h : impl_fold.f k a0 l1 = some r),
    Calls Try.prog 41 #[.int .i64 a0, .slice A1 l1.length c1] w fun e w' => ∃ v0_ : Value, e = .returned (v0_) ∧ Kd.R k52 52 w' w.heap.size (fun _ => True) v0_ r ∧ Below w.heap.size w w' := by
  induction k using Nat.strongRecOn with
  | _ k ih =>
  intro a0 A1 c1 l1 r w hr1 hc1 h
  cases k with
  | zero => exact absurd h (by simp [impl_fold.f])
  | succ k =>
  simp only [impl_fold.f] at h
  have hu52 := Try.underlying52
  have HR1 := Aside0.mk hr1
  have HC1 := Aside0.mk hc1
  clear hr1 hc1
  have HB := Aside0.mk (Below.refl w.heap.size w)
  have H : ((impl_varsIn.f l1).bind fun t638 => (if (t638.length : Int) = 0 then ((impl_kindOf.f k l1).bind fun t641 => (if t641 = 2 then ((impl_valueOf.f k a0 l1 ([] : List Int)).bind fun t642 => (some (([(⟨20, t642⟩ : S52)] : List (S52))))) else ((impl_valueOf.f k a0 l1 ([] : List Int)).bind fun t646 => (some (([(⟨1, t646⟩ : S52)] : List (S52))))))) else (if 0 ≤ (wrap64 ((l1.length : Int) - 1)) then (if (wrap64 ((l1.length : Int) - 1)) < (l1.length : Int) then (impl_fold.l0 k a0 l1 (([(⟨(rd_T52 l1 (wrap64 ((l1.length : Int) - 1))).f0, (rd_T52 l1 (wrap64 ((l1.length : Int) - 1))).f1⟩ : S52)] : List (S52))) (wrap64 ((l1.length : Int) - 1))) else (none)) else (none)))) = some r := h
  clear h
  replace H := Option.bind_eq_some_iff.mp H
  obtain ⟨t638, A30, H⟩ := H
  replace H : (if (t638.length : Int) = 0 then ((impl_kindOf.f k l1).bind fun t641 => (if t641 = 2 then ((impl_valueOf.f k a0 l1 ([] : List Int)).bind fun t642 => (some (([(⟨20, t642⟩ : S52)] : List (S52))))) else ((impl_valueOf.f k a0 l1 ([] : List Int)).bind fun t646 => (some (([(⟨1, t646⟩ : S52)] : List (S52))))))) else (if 0 ≤ (wrap64 ((l1.length : Int) - 1)) then (if (wrap64 ((l1.length : Int) - 1)) < (l1.length : Int) then (impl_fold.l0 k a0 l1 (([(⟨(rd_T52 l1 (wrap64 ((l1.length : Int) - 1))).f0, (rd_T52 l1 (wrap64 ((l1.length : Int) - 1))).f1⟩ : S52)] : List (S52))) (wrap64 ((l1.length : Int) - 1))) else (none)) else (none))) = some r := H
  have A3 := Aside0.mk A30
  clear A30
  by_cases c4 : (t638.length : Int) = 0
  · rw [if_pos c4] at H
    have c4b0 : ((t638.length : Int) == 0) = true := beq_iff_eq.mpr c4
    have c4b1 : ((t638.length : Int) != 0) = false := bne_eq_false_iff_eq.mpr c4
    clear c4
    replace H := Option.bind_eq_some_iff.mp H
    obtain ⟨t641, A50, H⟩ := H
    replace H : (if t641 = 2 then ((impl_valueOf.f k a0 l1 ([] : List Int)).bind fun t642 => (some (([(⟨20, t642⟩ : S52)] : List (S52))))) else ((impl_valueOf.f k a0 l1 ([] : List Int)).bind fun t646 => (some (([(⟨1, t646⟩ : S52)] : List (S52)))))) = some r := H
    have A5 := Aside0.mk A50
    clear A50
    by_cases c6 : t641 = 2
    · rw [if_pos c6] at H
      have c6b0 : (t641 == 2) = true := beq_iff_eq.mpr c6
      have c6b1 : (t641 != 2) = false := bne_eq_false_iff_eq.mpr c6
      clear c6
      replace H := Option.bind_eq_some_iff.mp H
      obtain ⟨t642, A70, H⟩ := H
      replace H : (some (([(⟨20, t642⟩ : S52)] : List (S52)))) = some r := H
      have A7 := Aside0.mk A70
      clear A70
      obtain ⟨y643, hy643⟩ : ∃ y_ : List (S52), y_ = (([(⟨20, t642⟩ : S52)] : List (S52))) := ⟨_, rfl⟩
      replace H : (some y643) = some r := qY hy643 H
      have Ny643 := Aside0.mk hy643
      clear hy643
      obtain rfl := Option.some.inj H
      go_enter Try.func41, Try.ntmps41
      go_wp2_with (first | ((with_reducible refine gate_callee (f := 67) rfl ?_); refine goesL_ (some 14) rfl rfl Try.func67 (by kernel_rfl) rfl #[.slice A1 l1.length c1] rfl qG ?_; (with_reducible refine (impl_varsIn.calls _ _ l1 t638 _ ?side1 ?side2 A3.out).mono ?_); (case side1 => exact qC HR1.out); (case side2 => exact HC1.out); rintro e w8 ⟨v639, rfl, ho0, hb⟩; refine ⟨_, rfl, ?_⟩; have n0_ := Aside0.mk (Kd.R_lower ho0 (below_size (qB))); have n1_ := Aside0.mk (below_step (qB) hb); clear HB; have HO640 := n0_; have HB := n1_; clear n0_ n1_; (try clear hb); (try clear hb2); (try clear hk); (try clear hi); (try clear ho0); obtain ⟨Ao9, co9, eo9⟩ := Kd.R_slice HO640.out; subst eo9) | ((with_reducible refine gate_callee (f := 58) rfl ?_); refine goesL_ (some 18) rfl rfl Try.func58 (by kernel_rfl) rfl #[.slice A1 l1.length c1] rfl qG ?_; (with_reducible refine (impl_kindOf.calls k _ _ l1 t641 _ ?side1 ?side2 A5.out).mono ?_); (case side1 => exact qC (Kd.C_below HR1.out HB.out)); (case side2 => exact HC1.out); rintro e w' ⟨rfl, ⟨nd, rfl⟩⟩; refine ⟨_, rfl, ?_⟩) | ((with_reducible refine gate_callee (f := 39) rfl ?_); refine goesL_ (some 23) rfl rfl Try.func39 (by kernel_rfl) rfl #[.int .i64 a0, .slice A1 l1.length c1, .slice none 0 0] rfl qG ?_; (refine (impl_valueOf.calls k a0 _ _ l1 _ _ ([] : List Int) t642 _ ?side1 ?side2 ?side3 ?side4 A7.out).mono ?_); (case side1 => repeat (first | exact (Kd.C_below HR1.out (qB)) | (with_reducible refine Kd.C_alloc ?_ _) | (with_reducible refine Kd.C_drewN ?_ _) | (with_reducible refine Kd.C_drew ?_))); (case side2 => exact HC1.out); (case side3 => exact Kd.C_nil _ _); (case side4 => exact Nat.le_refl _); rintro e w10 ⟨rfl, hb⟩; refine ⟨_, rfl, ?_⟩; have n0_ := Aside0.mk (Kd.R_below (qR HO640.out) hb); have n1_ := Aside0.mk (below_step (qB) hb); clear HO640; clear HB; have HO640 := n0_; have HB := n1_; clear n0_ n1_; (try clear hb); (try clear hb2); (try clear hk); (try clear hi)) | ((with_reducible refine gate_dst (N := 25) rfl ?_); refine Kd.R_lit k52 _ 52 ?hg (N := 25) ?hd (xs := ([(⟨20, t642⟩ : S52)] : List (S52))) (inner := [.int .i64 20, .int .u64 t642]) (ok := fun _ => True) (okp := fun _ => True) ?hr ?hp (fun _ hk => hk) trivial (Below.refl _ _) (Nat.le_refl _) (by simp) ?_; (case hd => rfl); (case hg => rfl); (case hr => first | (go_simp; done) | (go_simp; rfl)); (case hp => exact (Reps.c2 (show Kd.M k52 _ _ _ (⟨20, t642⟩ : S52) [.int .i64 20, .int .u64 t642] from (k52_mkM _ _ _ (⟨20, t642⟩ : S52) )) (Reps.none _ _))); intro v644 w11 ho12 hb hg_ hnew_; clear hg_ hnew_; (first | rw [← Ny643.out] at ho12 | (simp only [Int.reduceToNat] at ho12; rw [← Ny643.out] at ho12)); have n0_ := Aside0.mk (Kd.R_below (qR HO640.out) hb); have n1_ := Aside0.mk (Kd.R_lower ho12 (below_size (qB))); have n2_ := Aside0.mk (below_step (qB) hb); clear HO640; clear HB; have HO640 := n0_; have HO645 := n1_; have HB := n2_; clear n0_ n1_ n2_; clear hb ho12))
      go_ret
      exact ⟨_, qE, qR HO645.out, qB⟩
    · rw [if_neg c6] at H
      have c6b0 : (t641 == 2) = false := beq_eq_false_iff_ne.mpr c6
      have c6b1 : (t641 != 2) = true := bne_iff_ne.mpr c6
      replace H := Option.bind_eq_some_iff.mp H
      obtain ⟨t646, A130, H⟩ := H
      replace H : (some (([(⟨1, t646⟩ : S52)] : List (S52)))) = some r := H
      have A13 := Aside0.mk A130
      clear A130
      obtain ⟨y647, hy647⟩ : ∃ y_ : List (S52), y_ = (([(⟨1, t646⟩ : S52)] : List (S52))) := ⟨_, rfl⟩
      replace H : (some y647) = some r := qY hy647 H
      have Ny647 := Aside0.mk hy647
      clear hy647
      obtain rfl := Option.some.inj H
      go_enter Try.func41, Try.ntmps41
      go_wp2_with (first | ((with_reducible refine gate_callee (f := 67) rfl ?_); refine goesL_ (some 14) rfl rfl Try.func67 (by kernel_rfl) rfl #[.slice A1 l1.length c1] rfl qG ?_; (with_reducible refine (impl_varsIn.calls _ _ l1 t638 _ ?side1 ?side2 A3.out).mono ?_); (case side1 => exact qC HR1.out); (case side2 => exact HC1.out); rintro e w14 ⟨v639, rfl, ho0, hb⟩; refine ⟨_, rfl, ?_⟩; have n0_ := Aside0.mk (Kd.R_lower ho0 (below_size (qB))); have n1_ := Aside0.mk (below_step (qB) hb); clear HB; have HO640 := n0_; have HB := n1_; clear n0_ n1_; (try clear hb); (try clear hb2); (try clear hk); (try clear hi); (try clear ho0); obtain ⟨Ao15, co15, eo15⟩ := Kd.R_slice HO640.out; subst eo15) | ((with_reducible refine gate_callee (f := 58) rfl ?_); refine goesL_ (some 18) rfl rfl Try.func58 (by kernel_rfl) rfl #[.slice A1 l1.length c1] rfl qG ?_; (with_reducible refine (impl_kindOf.calls k _ _ l1 t641 _ ?side1 ?side2 A5.out).mono ?_); (case side1 => exact qC (Kd.C_below HR1.out HB.out)); (case side2 => exact HC1.out); rintro e w' ⟨rfl, ⟨nd, rfl⟩⟩; refine ⟨_, rfl, ?_⟩) | ((with_reducible refine gate_callee (f := 39) rfl ?_); refine goesL_ (some 23) rfl rfl Try.func39 (by kernel_rfl) rfl #[.int .i64 a0, .slice A1 l1.length c1, .slice none 0 0] rfl qG ?_; (refine (impl_valueOf.calls k a0 _ _ l1 _ _ ([] : List Int) t646 _ ?side1 ?side2 ?side3 ?side4 A13.out).mono ?_); (case side1 => repeat (first | exact (Kd.C_below HR1.out (qB)) | (with_reducible refine Kd.C_alloc ?_ _) | (with_reducible refine Kd.C_drewN ?_ _) | (with_reducible refine Kd.C_drew ?_))); (case side2 => exact HC1.out); (case side3 => exact Kd.C_nil _ _); (case side4 => exact Nat.le_refl _); rintro e w16 ⟨rfl, hb⟩; refine ⟨_, rfl, ?_⟩; have n0_ := Aside0.mk (Kd.R_below (qR HO640.out) hb); have n1_ := Aside0.mk (below_step (qB) hb); clear HO640; clear HB; have HO640 := n0_; have HB := n1_; clear n0_ n1_; (try clear hb); (try clear hb2); (try clear hk); (try clear hi)) | ((with_reducible refine gate_dst (N := 25) rfl ?_); refine Kd.R_lit k52 _ 52 ?hg (N := 25) ?hd (xs := ([(⟨1, t646⟩ : S52)] : List (S52))) (inner := [.int .i64 1, .int .u64 t646]) (ok := fun _ => True) (okp := fun _ => True) ?hr ?hp (fun _ hk => hk) trivial (Below.refl _ _) (Nat.le_refl _) (by simp) ?_; (case hd => rfl); (case hg => rfl); (case hr => first | (go_simp; done) | (go_simp; rfl)); (case hp => exact (Reps.c2 (show Kd.M k52 _ _ _ (⟨1, t646⟩ : S52) [.int .i64 1, .int .u64 t646] from (k52_mkM _ _ _ (⟨1, t646⟩ : S52) )) (Reps.none _ _))); intro v648 w17 ho18 hb hg_ hnew_; clear hg_ hnew_; (first | rw [← Ny647.out] at ho18 | (simp only [Int.reduceToNat] at ho18; rw [← Ny647.out] at ho18)); have n0_ := Aside0.mk (Kd.R_below (qR HO640.out) hb); have n1_ := Aside0.mk (Kd.R_lower ho18 (below_size (qB))); have n2_ := Aside0.mk (below_step (qB) hb); clear HO640; clear HB; have HO640 := n0_; have HO649 := n1_; have HB := n2_; clear n0_ n1_ n2_; clear hb ho18))
      go_ret
      exact ⟨_, qE, qR HO649.out, qB⟩
  · rw [if_neg c4] at H
    have c4b0 : ((t638.length : Int) == 0) = false := beq_eq_false_iff_ne.mpr c4
    have c4b1 : ((t638.length : Int) != 0) = true := bne_iff_ne.mpr c4
    have c4b2 : ¬ (t638 = []) := fun h_ => c4 (by rw [h_]; rfl)
    obtain ⟨ji19, hji19⟩ : ∃ j_ : Int, (wrap64 ((l1.length : Int) - 1)) = j_ := ⟨_, rfl⟩
    replace H : (if 0 ≤ (ji19) then (if (ji19) < (l1.length : Int) then (impl_fold.l0 k a0 l1 (([(⟨(rd_T52 l1 (ji19)).f0, (rd_T52 l1 (ji19)).f1⟩ : S52)] : List (S52))) ji19) else (none)) else (none)) = some r := by first | (rw [hji19] at H; exact H) | (simp only [hji19] at H ⊢; exact H)
    (try rw [hji19] at A3)
    have hji19w : (IntKind.i64.wrap ((l1.length : Int) - 1)) = ji19 := (i64_w _).trans hji19
    by_cases c20 : 0 ≤ (ji19)
    · rw [if_pos c20] at H
      have c20b0 : decide (0 ≤ (ji19)) = true := decide_eq_true c20
      clear c20
      by_cases c21 : (ji19) < (l1.length : Int)
      · rw [if_pos c21] at H
        have c21b0 : decide ((ji19) < (l1.length : Int)) = true := decide_eq_true c21
        clear c21
        obtain ⟨y651, hy651⟩ : ∃ y_ : List (S52), y_ = (([(⟨(rd_T52 l1 (ji19)).f0, (rd_T52 l1 (ji19)).f1⟩ : S52)] : List (S52))) := ⟨_, rfl⟩
        replace H : (impl_fold.l0 k a0 l1 y651 ji19) = some r := qY hy651 H
        have Ny651 := Aside0.mk hy651
        clear hy651
        have H' := Aside0.mk H
        clear H
        go_enter Try.func41, Try.ntmps41
        go_wp2_with (first | ((with_reducible refine gate_callee (f := 67) rfl ?_); refine goesL_ (some 14) rfl rfl Try.func67 (by kernel_rfl) rfl #[.slice A1 l1.length c1] rfl qG ?_; (with_reducible refine (impl_varsIn.calls _ _ l1 t638 _ ?side1 ?side2 A3.out).mono ?_); (case side1 => exact qC HR1.out); (case side2 => exact HC1.out); rintro e w22 ⟨v639, rfl, ho0, hb⟩; refine ⟨_, rfl, ?_⟩; have n0_ := Aside0.mk (Kd.R_lower ho0 (below_size (qB))); have n1_ := Aside0.mk (below_step (qB) hb); clear HB; have HO640 := n0_; have HB := n1_; clear n0_ n1_; (try clear hb); (try clear hb2); (try clear hk); (try clear hi); (try clear ho0); obtain ⟨Ao23, co23, eo23⟩ := Kd.R_slice HO640.out; subst eo23; have p650 : 0 ≤ ((ji19) : Int) := qD; have q650 : (ji19) < (l1.length : Int) := qD; obtain ⟨ad650, e650, hx650_0, hx650_1⟩ := at_T52 HR1.out (ji19) p650 q650; cases e650; replace hx650_0 := (HB.out.cell (World.block_lt_of_cell? w _ hx650_0)).trans hx650_0; replace hx650_1 := (HB.out.cell (World.block_lt_of_cell? w _ hx650_1)).trans hx650_1; replace p650 := eq_true p650; replace q650 := eq_true q650) | ((with_reducible refine gate_dst (N := 30) rfl ?_); refine Kd.R_lit k52 _ 52 ?hg (N := 30) ?hd (xs := ([(⟨(rd_T52 l1 (ji19)).f0, (rd_T52 l1 (ji19)).f1⟩ : S52)] : List (S52))) (inner := [.int .i64 ((rd_T52 l1 (ji19)).f0), .int .u64 ((rd_T52 l1 (ji19)).f1)]) (ok := fun _ => True) (okp := fun _ => True) ?hr ?hp (fun _ hk => hk) trivial (Below.refl _ _) (Nat.le_refl _) (by simp) ?_; (case hd => rfl); (case hg => rfl); (case hr => first | (go_simp; done) | (go_simp; rfl)); (case hp => exact (Reps.c2 (show Kd.M k52 _ _ _ (⟨(rd_T52 l1 (ji19)).f0, (rd_T52 l1 (ji19)).f1⟩ : S52) [.int .i64 ((rd_T52 l1 (ji19)).f0), .int .u64 ((rd_T52 l1 (ji19)).f1)] from (k52_mkM _ _ _ (⟨(rd_T52 l1 (ji19)).f0, (rd_T52 l1 (ji19)).f1⟩ : S52) )) (Reps.none _ _))); intro v652 w24 ho25 hb hg_ hnew_; clear hg_ hnew_; (first | rw [← Ny651.out] at ho25 | (simp only [Int.reduceToNat] at ho25; rw [← Ny651.out] at ho25)); have n0_ := Aside0.mk (Kd.R_below (qR HO640.out) hb); have n1_ := Aside0.mk (Kd.R_lower ho25 (below_size (qB))); have n2_ := Aside0.mk (below_step (qB) hb); clear HO640; clear HB; have HO640 := n0_; have HO653 := n1_; have HB := n2_; clear n0_ n1_ n2_; clear hb ho25))
        go_loopg [7, 8] k (fun kq v7 v8 w' => ∃ (x7_1 : List (S52)) (x8_1 : Int), v8 = .int .i64 x8_1 ∧ Aside0 (impl_fold.l0 kq a0 l1 x7_1 x8_1 = some r) ∧ Aside0 (kq ≤ k) ∧ Aside0 (Kd.R k52 52 w' w.heap.size (fun _ => True) v7 x7_1) ∧ Aside0 (Below w.heap.size w w'))
        case atStart => exact ⟨(y651), (ji19), (by first | rfl | (simp; done) | (simp only [← hji19] <;> (first | rfl | simp)) | (simp [*]; done)), H', ⟨Nat.le_refl _⟩, ⟨qR HO653.out⟩, ⟨qB⟩⟩
        case round =>
          clear H'
          try clear c1
          try clear c2
          try clear p2
          try clear c3
          try clear c4
          try clear c4b0
          try clear c4b1
          try clear c4b2
          try clear c5
          try clear c6
          try clear c6b0
          try clear c6b1
          try clear p6
          try clear q6
          try clear hx6
          try clear c20
          try clear c20b0
          try clear c21
          try clear c21b0
          try clear hx650_0
          try clear hx650_1
          try clear p650
          try clear q650
          obtain ⟨x7_1, x8_1, rfl, HA, HK1, HO_7, HB⟩ := hrel
          cases gk with
          | zero => exact absurd HA.out (by simp [impl_fold.l0])
          | succ k1 =>
            have H := HA.out
            clear HA
            simp only [impl_fold.l0] at H
            by_cases c26 : x8_1 > 0
            · rw [if_pos c26] at H
              have c26b0 : decide (0 < x8_1) = true := decide_eq_true c26
              clear c26
              replace H := Option.bind_eq_some_iff.mp H
              obtain ⟨t654, A270, H⟩ := H
              replace H : (if 0 ≤ t654 then (if t654 ≤ x8_1 then (if x8_1 ≤ (l1.length : Int) then ((impl_fold.f k1 a0 ((l1.take (x8_1 : Int).toNat).drop (t654 : Int).toNat)).bind fun t659 => (if t659.length + x7_1.length < 8796093022208 then (impl_fold.l0 k1 a0 l1 (t659 ++ x7_1) t654) else (none))) else (none)) else (none)) else (none)) = some r := H
              have A27 := Aside0.mk A270
              clear A270
              by_cases c28 : 0 ≤ t654
              · rw [if_pos c28] at H
                have c28b0 := eq_true c28
                have c28b1 : decide (0 ≤ t654) = true := decide_eq_true c28
                clear c28
                by_cases c29 : t654 ≤ x8_1
                · rw [if_pos c29] at H
                  have c29b0 := eq_true c29
                  have c29b1 : decide (t654 ≤ x8_1) = true := decide_eq_true c29
                  clear c29
                  by_cases c30 : x8_1 ≤ (l1.length : Int)
                  · rw [if_pos c30] at H
                    have c30b0 := eq_true c30
                    have c30b1 : decide (x8_1 ≤ (l1.length : Int)) = true := decide_eq_true c30
                    clear c30
                    obtain ⟨y655, hy655⟩ : ∃ y_ : List (S52), y_ = ((l1.take (x8_1 : Int).toNat).drop (t654 : Int).toNat) := ⟨_, rfl⟩
                    replace H : ((impl_fold.f k1 a0 y655).bind fun t659 => (if t659.length + x7_1.length < 8796093022208 then (impl_fold.l0 k1 a0 l1 (t659 ++ x7_1) t654) else (none))) = some r := qY hy655 H
                    have Ny655 := Aside0.mk hy655
                    clear hy655
                    replace H := Option.bind_eq_some_iff.mp H
                    obtain ⟨t659, A310, H⟩ := H
                    replace H : (if t659.length + x7_1.length < 8796093022208 then (impl_fold.l0 k1 a0 l1 (t659 ++ x7_1) t654) else (none)) = some r := H
                    have A31 := Aside0.mk A310
                    clear A310
                    by_cases c32 : t659.length + x7_1.length < 8796093022208
                    · rw [if_pos c32] at H
                      have LMc32 := Aside0.mk c32
                      clear c32
                      obtain ⟨y662, hy662⟩ : ∃ y_ : List (S52), y_ = (t659 ++ x7_1) := ⟨_, rfl⟩
                      replace H : (impl_fold.l0 k1 a0 l1 y662 t654) = some r := qY hy662 H
                      have Ny662 := Aside0.mk hy662
                      clear hy662
                      have H' := Aside0.mk H
                      clear H
                      go_wp2_with (first | ((with_reducible refine gate_callee (f := 68) rfl ?_); refine goesL_ (some 37) rfl rfl Try.func68 (by kernel_rfl) rfl #[.slice (some ad650) l1.length c1, .int .i64 (wrap64 (x8_1 - 1))] rfl qG ?_; (with_reducible refine (impl_startOf.calls k1 _ _ l1 (wrap64 (x8_1 - 1)) t654 _ ?side1 ?side2 A27.out).mono ?_); (case side1 => exact qC (Kd.C_below HR1.out HB.out)); (case side2 => exact HC1.out); rintro e w' ⟨rfl, ⟨nd, rfl⟩⟩; refine ⟨_, rfl, ?_⟩; have q33 : (x8_1 : Int) ≤ ((l1.length : Int) : Int) := qD; obtain ⟨i033, hi033, _, hsz33, _⟩ := info_parts info52; have hroom33 : l1.length ≤ c1 := HC1.out; have hC33 : Kd.C k52 _ (some ad650) l1.length l1 := HR1.out; have ql33 : (t654 : Int) ≤ (x8_1 : Int) := qD; have q033 : (0 : Int) ≤ (t654 : Int) := qD; have hcut33 := cut_mid (P := Try.prog) 26 52 .i64 .i64 Try.underlying26 hi033 2 hsz33 (some ad650) l1.length c1 t654 x8_1 q033 ql33 q33 hroom33; have hr33 := Kd.C_mid (lo := (t654 : Int).toNat) (hi := (x8_1 : Int).toNat) (c := c1) hC33 (by omega) (by omega) hroom33; obtain ⟨A33, hA33⟩ : ∃ A_, A_ = (if c1 = (t654 : Int).toNat then (some ad650) else ((some ad650) : Option Addr).map (·.add ((t654 : Int).toNat * 2))) := ⟨_, rfl⟩; obtain ⟨c33, hc33⟩ : ∃ c_, c_ = c1 - (t654 : Int).toNat := ⟨_, rfl⟩; have hy33 : y655.length = (x8_1 : Int).toNat - (t654 : Int).toNat := (by rw [Ny655.out, List.length_drop, List.length_take] <;> omega); rw [show ((l1).take (x8_1 : Int).toNat).drop (t654 : Int).toNat = y655 from Ny655.out.symm] at hr33; replace hr33 : Kd.C k52 _ A33 y655.length y655 := (by rw [hA33]; exact hr33); rw [← hy33, ← hA33, ← hc33] at hcut33; have HR658 := Aside0.mk hr33; have HC658 := Aside0.mk (show y655.length ≤ c33 from by rw [hy33, hc33]; exact Nat.sub_le_sub_right (Nat.le_trans (by omega) hroom33) _); clear hr33 hC33 hroom33 hi033 hsz33 hc33; have KY33 := Aside0.mk hy33; have KA33 := Aside0.mk hA33; clear hy33 hA33; replace q33 := eq_true q33) | ((with_reducible refine gate_callee (f := 41) rfl ?_); refine goesL_ (some 43) rfl rfl Try.func41 (by kernel_rfl) rfl #[.int .i64 a0, .slice A33 y655.length c33] rfl qG ?_; (with_reducible refine (ih k1 (by have := HK1.out; omega) a0 _ _ y655 t659 _ ?side1 ?side2 A31.out).mono ?_); (case side1 => repeat (first | exact (Kd.C_below HR658.out (qB)) | (with_reducible refine Kd.C_alloc ?_ _) | (with_reducible refine Kd.C_drewN ?_ _) | (with_reducible refine Kd.C_drew ?_))); (case side2 => exact HC658.out); rintro e w34 ⟨v660, rfl, ho0, hb⟩; refine ⟨_, rfl, ?_⟩; have n0_ := Aside0.mk (Kd.R_elder' (qR HO_7.out) (Kd.R_base ho0) hb); have n1_ := Aside0.mk (Kd.R_lower (Kd.R_new' ho0 (Kd.R_lt (qR HO_7.out))) (below_size (qB))); have n2_ := Aside0.mk (below_step (qB) hb); clear HO_7; clear HB; have HO_7 := n0_; have HO661 := n1_; have HB := n2_; clear n0_ n1_ n2_; (try clear hb); (try clear hb2); (try clear hk); (try clear hi); (try clear ho0); obtain ⟨Ao36, co36, eo36⟩ := Kd.R_slice HO_7.out; subst eo36) | ((with_reducible refine gate_builtin (b := .append) (xs := #[.tmp 43, .tmp 44]) rfl ?_); at_builtin; refine Kd.R_append_rows k52 (w0 := w) w.heap.size rfl (.tmp 43) (.tmp 44) 26 52 (.agg #[(.int .i64 0), (.int .u64 0)]) 16 rfl Try.underlying26 info52 rfl (by decide) (by omega) v660 t659 x7_1 _ _ _ (fun k_ => some k_ ≠ (.slice Ao36 x7_1.length co36 : Value).ownBlock) (fun _ => False) rfl rfl ?aO ?aR (fun _ _ h => h) (fun _ h => h.elim) ?aF ?aB ?aS ?aL ?_; (case aR => repeat (first | exact (Kd.R_reads' HO_7.out).2.2 | (with_reducible refine Kd.C_alloc ?_ _) | (with_reducible refine Kd.C_drewN ?_ _) | (with_reducible refine Kd.C_drew ?_))); (case aB => exact (qB)); (case aF => exact (fun k_ hk => Kd.fresh' (Kd.R_lt (qR HO_7.out)) k_ hk)); (case aO => exact (by (with_reducible repeat (first | apply Kd.R_alloc | apply Kd.R_drewN | apply Kd.R_drew)); exact Kd.R_mono HO661.out (fun _ hk => hk.2))); (case aS => exact (below_size (qB))); (case aL => have := LMc32.out; omega); intro v663 w35 ho hb hg hat; rw [← Ny662.out] at ho; have n0_ := Aside0.mk (Kd.R_after (ok := (fun _ => True)) (qR HO_7.out) hg hat); have n1_ := Aside0.mk (hb); have n2_ := Aside0.mk (ho); clear HO_7; clear HB; clear HO661; have HO_7 := n0_; have HB := n1_; have HO664 := n2_; clear n0_ n1_ n2_; clear ho hb hg hat))
                      go_roundg k1
                      case measure => have := HK1.out; omega
                      case rel => exact ⟨(y662), (t654), qS, H', ⟨by have := HK1.out; omega⟩, ⟨by (with_reducible repeat (first | apply Kd.R_alloc | apply Kd.R_drewN | apply Kd.R_drew)); exact Kd.R_mono HO664.out (fun _ hk => trivial)⟩, ⟨qB⟩⟩
                    · rw [if_neg c32] at H
                      exact absurd H (by simp)
                  · rw [if_neg c30] at H
                    exact absurd H (by simp)
                · rw [if_neg c29] at H
                  exact absurd H (by simp)
              · rw [if_neg c28] at H
                exact absurd H (by simp)
            · rw [if_neg c26] at H
              have c26b0 : decide (0 < x8_1) = false := decide_eq_false c26
              clear c26
              obtain rfl := Option.some.inj H
              go_wp2
              go_ret
              exact ⟨_, by first | rfl | (simp [errW_none, errW_some] <;> rfl) | (simp only [← hji19]; first | rfl | (simp [errW_none, errW_some] <;> rfl)) | (simp [*, errW_none, errW_some] <;> rfl), qR HO_7.out, qB⟩
      · rw [if_neg c21] at H
        exact absurd H (by simp)
    · rw [if_neg c20] at H
      exact absurd H (by simp)


/-! ### impl_FoldTerm: function 23 -/
def impl_FoldTerm.f (k : Nat) (a0 : Int) (a1 : Int) (l2 : List (S52)) : Option ((List (S52)) × Bool) := (impl_GoodTerm.f k a0 a1 l2).bind fun t665 => (if t665 = true then ((impl_fold.f k a0 l2).bind fun t666 => (some (t666, true))) else (some (([] : List (S52)), false)))
theorem impl_FoldTerm.mono : ∀ a0 a1 a2 k, LeO (impl_FoldTerm.f k a0 a1 a2) (impl_FoldTerm.f (k + 1) a0 a1 a2) := by
  intro a0 a1 a2 k
  unfold impl_FoldTerm.f
  repeat' first
      | (with_reducible exact impl_GoodTerm.mono _ _ _ _)
      | (with_reducible exact impl_fold.mono _ _ _)
      | (with_reducible exact LeO.refl _)
      | (with_reducible exact LeO.none _)
      | (with_reducible refine LeO.ite ?_ ?_)
      | (with_reducible refine LeO.bind ?_ (fun _ => ?_))
      | exact impl_GoodTerm.mono _ _ _ _
      | exact impl_fold.mono _ _ _
      | exact LeO.none _
      | refine LeO.ite ?_ ?_
      | refine LeO.bind ?_ (fun _ => ?_)
set_option maxHeartbeats 8000000 in
set_option maxRecDepth 100000 in
theorem impl_FoldTerm.calls (k : Nat) (a0 : Int) (a1 : Int) (A2 : Option Addr) (c2 : Nat) (l2 : List (S52)) (r1 : List (S52)) (r2 : Bool) (w : World) (hr2 : Kd.C k52 w A2 l2.length l2) (hc2 : l2.length ≤ c2) (h : impl_FoldTerm.f k a0 a1 l2 = some (r1, r2)) :
    Calls Try.prog 23 #[.int .i64 a0, .int .i64 a1, .slice A2 l2.length c2] w fun e w' => ∃ v0_ : Value, e = .returned (.tuple #[v0_, .bool r2]) ∧ Kd.R k52 52 w' w.heap.size (fun _ => True) v0_ r1 ∧ Below w.heap.size w w' := by
  have HR2 := Aside0.mk hr2
  have HC2 := Aside0.mk hc2
  clear hr2 hc2
  have HB := Aside0.mk (Below.refl w.heap.size w)
  have H : ((impl_GoodTerm.f k a0 a1 l2).bind fun t665 => (if t665 = true then ((impl_fold.f k a0 l2).bind fun t666 => (some (t666, true))) else (some (([] : List (S52)), false)))) = some (r1, r2) := h
  clear h
  replace H := Option.bind_eq_some_iff.mp H
  obtain ⟨t665, A40, H⟩ := H
  replace H : (if t665 = true then ((impl_fold.f k a0 l2).bind fun t666 => (some (t666, true))) else (some (([] : List (S52)), false))) = some (r1, r2) := H
  have A4 := Aside0.mk A40
  clear A40
  by_cases c5 : t665 = true
  · subst c5
    have H1 : ((impl_fold.f k a0 l2).bind fun t666 => (some (t666, true))) = some (r1, r2) := by rw [if_pos rfl] at H; exact H
    clear H
    have H := H1
    clear H1
    replace H := Option.bind_eq_some_iff.mp H
    obtain ⟨t666, A60, H⟩ := H
    replace H : (some (t666, true)) = some (r1, r2) := H
    have A6 := Aside0.mk A60
    clear A60
    simp only [Option.some.injEq, Prod.mk.injEq] at H
    obtain ⟨rfl, rfl⟩ := H
    go_enter Try.func23, Try.ntmps23
    go_wp2_with (first | ((with_reducible refine gate_callee (f := 30) rfl ?_); refine goesL_ (some 11) rfl rfl Try.func30 (by kernel_rfl) rfl #[.int .i64 a0, .int .i64 a1, .slice A2 l2.length c2] rfl qG ?_; (with_reducible refine (impl_GoodTerm.calls k a0 a1 _ _ l2 true _ ?side1 ?side2 A4.out).mono ?_); (case side1 => exact qC HR2.out); (case side2 => exact HC2.out); rintro e w7 ⟨rfl, hb⟩; refine ⟨_, rfl, ?_⟩; have n0_ := Aside0.mk (below_step (qB) hb); clear HB; have HB := n0_; clear n0_; (try clear hb); (try clear hb2); (try clear hk); (try clear hi)) | ((with_reducible refine gate_callee (f := 41) rfl ?_); refine goesL_ (some 15) rfl rfl Try.func41 (by kernel_rfl) rfl #[.int .i64 a0, .slice A2 l2.length c2] rfl qG ?_; (with_reducible refine (impl_fold.calls k a0 _ _ l2 t666 _ ?side1 ?side2 A6.out).mono ?_); (case side1 => exact qC (Kd.C_below HR2.out HB.out)); (case side2 => exact HC2.out); rintro e w8 ⟨v667, rfl, ho0, hb⟩; refine ⟨_, rfl, ?_⟩; have n0_ := Aside0.mk (Kd.R_lower ho0 (below_size (qB))); have n1_ := Aside0.mk (below_step (qB) hb); clear HB; have HO668 := n0_; have HB := n1_; clear n0_ n1_; (try clear hb); (try clear hb2); (try clear hk); (try clear hi); (try clear ho0)))
    go_ret2
    exact ⟨_, qE, qR HO668.out, qB⟩
  · replace c5 := Bool.eq_false_iff.mpr c5
    subst c5
    have H1 : (some (([] : List (S52)), false)) = some (r1, r2) := by rw [if_neg (show ¬ (false = true) by decide)] at H; exact H
    clear H
    have H := H1
    clear H1
    simp only [Option.some.injEq, Prod.mk.injEq] at H
    obtain ⟨rfl, rfl⟩ := H
    go_enter Try.func23, Try.ntmps23
    go_wp2_with (first | ((with_reducible refine gate_callee (f := 30) rfl ?_); refine goesL_ (some 11) rfl rfl Try.func30 (by kernel_rfl) rfl #[.int .i64 a0, .int .i64 a1, .slice A2 l2.length c2] rfl qG ?_; (with_reducible refine (impl_GoodTerm.calls k a0 a1 _ _ l2 false _ ?side1 ?side2 A4.out).mono ?_); (case side1 => exact qC HR2.out); (case side2 => exact HC2.out); rintro e w9 ⟨rfl, hb⟩; refine ⟨_, rfl, ?_⟩; have n0_ := Aside0.mk (below_step (qB) hb); clear HB; have HB := n0_; clear n0_; (try clear hb); (try clear hb2); (try clear hk); (try clear hi)))
    go_ret2
    exact ⟨_, qE, by first | exact Kd.R_nil _ _ _ _ _ | exact Kd.N_nil _ _ _ _ _ | exact Kd.V_nil _ _ _ _ _ | exact Kd.Q_nil _ _ _ _ _ | exact Kd.S_nil _ _ _ _ _, qB⟩

end Go.Proofs.Ytckdgmbmjfhodaa.X
