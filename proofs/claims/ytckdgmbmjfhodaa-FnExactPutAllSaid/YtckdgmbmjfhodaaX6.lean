/- Go functions as Lean functions, each with the proof that its call comes to just its answer. Conditions: the arguments are of their kinds. -/
import Derived.Test.YtckdgmbmjfhodaaX0
import Derived.Test.YtckdgmbmjfhodaaX4
namespace Go.Proofs.Ytckdgmbmjfhodaa.X
open Go.RowKit Go.Proofs.YtckdgmbmjfhodaaW.PrintWords Go.Proofs.YtckdgmbmjfhodaaW.PrintLast Go.Proofs.YtckdgmbmjfhodaaW.PrintMore
attribute [local go_sem] max2_int min2_int max_two min_two max_three min_three max_four min_four   -- for this text's walks alone
set_option linter.unusedVariables false
set_option linter.unusedSimpArgs false

/-! ### spec_PutAll: function 9 -/
mutual
def spec_PutAll.j0 : Nat → Int → Int → List (S52) → List (List (S52)) → Bool → Option ((List (S52)) × Bool)
 | 0, _, _, _, _, _ => none
 | k + 1, x0, x1, x2, x3, x25 => if x25 = true then (some (([] : List (S52)), false)) else (spec_PutAll.l0 k x0 x1 x2 x3 x3 (x3.length : Int) 0)
def spec_PutAll.l0 : Nat → Int → Int → List (S52) → List (List (S52)) → List (List (S52)) → Int → Int → Option ((List (S52)) × Bool)
 | 0, _, _, _, _, _, _, _ => none
 | k + 1, x0, x1, x2, x3, x26, x27, x28 => if x28 < x27 then (if 0 ≤ x28 then (if x28 < (x26.length : Int) then ((spec_l2Kind.f k x0 x1 (rd_L5 x26 x28)).bind fun t131 => (if t131 = 1 then (spec_PutAll.l0 k x0 x1 x2 x3 x26 x27 (wrap64 (x28 + 1))) else (some (([] : List (S52)), false)))) else (none)) else (none)) else (spec_PutAll.l1 k x0 x1 x3 ([] : List (S52)) x2 (x2.length : Int) 0)
def spec_PutAll.l1 : Nat → Int → Int → List (List (S52)) → List (S52) → List (S52) → Int → Int → Option ((List (S52)) × Bool)
 | 0, _, _, _, _, _, _, _ => none
 | k + 1, x0, x1, x3, x12, x38, x39, x40 => if x40 < x39 then (if 0 ≤ x40 then (if x40 < (x38.length : Int) then (if ((rd_T52 x38 x40).f0) = 2 then (if 0 ≤ ((rd_T52 x38 x40).f1) then (if ((rd_T52 x38 x40).f1) < (x3.length : Int) then (if x12.length + (rd_L5 x3 ((rd_T52 x38 x40).f1)).length < 8796093022208 then (spec_PutAll.l1 k x0 x1 x3 (x12 ++ (rd_L5 x3 ((rd_T52 x38 x40).f1))) x38 x39 (wrap64 (x40 + 1))) else (none)) else (none)) else (none)) else (if x12.length < 8796093022208 then (spec_PutAll.l1 k x0 x1 x3 (x12 ++ [(⟨(rd_T52 x38 x40).f0, (rd_T52 x38 x40).f1⟩ : S52)]) x38 x39 (wrap64 (x40 + 1))) else (none))) else (none)) else (none)) else ((spec_l2Made.f k x0 x1 x12).bind fun bt141 => (some (bt141.1, bt141.2)))
end
def spec_PutAll.f (k : Nat) (a0 : Int) (a1 : Int) (l2 : List (S52)) (l3 : List (List (S52))) : Option ((List (S52)) × Bool) := (spec_GoodTerm.f k a0 a1 l2).bind fun t129 => (if t129 = true then (spec_PutAll.j0 k a0 a1 l2 l3 ((l3.length : Int) != a1)) else (spec_PutAll.j0 k a0 a1 l2 l3 true))
theorem spec_PutAll.mono_l : ∀ k, (∀ y0 y1 y2 y3 y4, LeO (spec_PutAll.j0 k y0 y1 y2 y3 y4) (spec_PutAll.j0 (k + 1) y0 y1 y2 y3 y4)) ∧ (∀ y0 y1 y2 y3 y4 y5 y6, LeO (spec_PutAll.l0 k y0 y1 y2 y3 y4 y5 y6) (spec_PutAll.l0 (k + 1) y0 y1 y2 y3 y4 y5 y6)) ∧ (∀ y0 y1 y2 y3 y4 y5 y6, LeO (spec_PutAll.l1 k y0 y1 y2 y3 y4 y5 y6) (spec_PutAll.l1 (k + 1) y0 y1 y2 y3 y4 y5 y6))
 | 0 => ⟨fun _ _ _ _ _ r h => by simp [spec_PutAll.j0] at h, fun _ _ _ _ _ _ _ r h => by simp [spec_PutAll.l0] at h, fun _ _ _ _ _ _ _ r h => by simp [spec_PutAll.l1] at h⟩
 | k + 1 => by
  obtain ⟨ih0, ih1, ih2⟩ := spec_PutAll.mono_l k
  refine ⟨?_, ?_, ?_⟩
  ·intro y0 y1 y2 y3 y4
   unfold spec_PutAll.j0
   repeat' first
   | (with_reducible exact ih0 _ _ _ _ _)
   | (with_reducible exact ih1 _ _ _ _ _ _ _)
   | (with_reducible exact ih2 _ _ _ _ _ _ _)
   | (with_reducible exact spec_GoodTerm.mono _ _ _ _)
   | (with_reducible exact spec_l2Kind.mono _ _ _ _)
   | (with_reducible exact spec_l2Made.mono _ _ _ _)
   | (with_reducible first | exact LeO.refl _ | exact LeO.none _ | refine LeO.ite ?_ ?_ | refine LeO.bind ?_ (fun _ => ?_))
   | exact ih0 _ _ _ _ _
   | exact ih1 _ _ _ _ _ _ _
   | exact ih2 _ _ _ _ _ _ _
   | exact spec_GoodTerm.mono _ _ _ _
   | exact spec_l2Kind.mono _ _ _ _
   | exact spec_l2Made.mono _ _ _ _
   | exact LeO.none _ | refine LeO.ite ?_ ?_ | refine LeO.bind ?_ (fun _ => ?_)
  ·intro y0 y1 y2 y3 y4 y5 y6
   unfold spec_PutAll.l0
   repeat' first
   | (with_reducible exact ih0 _ _ _ _ _)
   | (with_reducible exact ih1 _ _ _ _ _ _ _)
   | (with_reducible exact ih2 _ _ _ _ _ _ _)
   | (with_reducible exact spec_GoodTerm.mono _ _ _ _)
   | (with_reducible exact spec_l2Kind.mono _ _ _ _)
   | (with_reducible exact spec_l2Made.mono _ _ _ _)
   | (with_reducible first | exact LeO.refl _ | exact LeO.none _ | refine LeO.ite ?_ ?_ | refine LeO.bind ?_ (fun _ => ?_))
   | exact ih0 _ _ _ _ _
   | exact ih1 _ _ _ _ _ _ _
   | exact ih2 _ _ _ _ _ _ _
   | exact spec_GoodTerm.mono _ _ _ _
   | exact spec_l2Kind.mono _ _ _ _
   | exact spec_l2Made.mono _ _ _ _
   | exact LeO.none _ | refine LeO.ite ?_ ?_ | refine LeO.bind ?_ (fun _ => ?_)
  ·intro y0 y1 y2 y3 y4 y5 y6
   unfold spec_PutAll.l1
   repeat' first
   | (with_reducible exact ih0 _ _ _ _ _)
   | (with_reducible exact ih1 _ _ _ _ _ _ _)
   | (with_reducible exact ih2 _ _ _ _ _ _ _)
   | (with_reducible exact spec_GoodTerm.mono _ _ _ _)
   | (with_reducible exact spec_l2Kind.mono _ _ _ _)
   | (with_reducible exact spec_l2Made.mono _ _ _ _)
   | (with_reducible first | exact LeO.refl _ | exact LeO.none _ | refine LeO.ite ?_ ?_ | refine LeO.bind ?_ (fun _ => ?_))
   | exact ih0 _ _ _ _ _
   | exact ih1 _ _ _ _ _ _ _
   | exact ih2 _ _ _ _ _ _ _
   | exact spec_GoodTerm.mono _ _ _ _
   | exact spec_l2Kind.mono _ _ _ _
   | exact spec_l2Made.mono _ _ _ _
   | exact LeO.none _ | refine LeO.ite ?_ ?_ | refine LeO.bind ?_ (fun _ => ?_)
theorem spec_PutAll.mono : ∀ a0 a1 a2 a3 k, LeO (spec_PutAll.f k a0 a1 a2 a3) (spec_PutAll.f (k + 1) a0 a1 a2 a3) := by
 intro a0 a1 a2 a3 k
 obtain ⟨ih0, ih1, ih2⟩ := spec_PutAll.mono_l k
 unfold spec_PutAll.f
 repeat' first
   | (with_reducible exact ih0 _ _ _ _ _)
   | (with_reducible exact ih1 _ _ _ _ _ _ _)
   | (with_reducible exact ih2 _ _ _ _ _ _ _)
   | (with_reducible exact spec_GoodTerm.mono _ _ _ _)
   | (with_reducible exact spec_l2Kind.mono _ _ _ _)
   | (with_reducible exact spec_l2Made.mono _ _ _ _)
   | (with_reducible first | exact LeO.refl _ | exact LeO.none _ | refine LeO.ite ?_ ?_ | refine LeO.bind ?_ (fun _ => ?_))
   | exact ih0 _ _ _ _ _
   | exact ih1 _ _ _ _ _ _ _
   | exact ih2 _ _ _ _ _ _ _
   | exact spec_GoodTerm.mono _ _ _ _
   | exact spec_l2Kind.mono _ _ _ _
   | exact spec_l2Made.mono _ _ _ _
   | exact LeO.none _ | refine LeO.ite ?_ ?_ | refine LeO.bind ?_ (fun _ => ?_)
set_option maxHeartbeats 8000000 in
set_option maxRecDepth 100000 in
theorem spec_PutAll.calls (k : Nat) (a0 : Int) (a1 : Int) (A2 : Option Addr) (c2 : Nat) (l2 : List (S52)) (A3 : Option Addr) (c3 : Nat) (l3 : List (List (S52))) (r1 : List (S52)) (r2 : Bool) (w : World) (hr2 : Kd.C k52 w A2 l2.length l2) (hc2 : l2.length ≤ c2) (hr3 : Kd.C (Kd.slice 52 k52) w A3 l3.length l3) (hc3 : l3.length ≤ c3) (h : spec_PutAll.f k a0 a1 l2 l3 = some (r1, r2)) :
  Calls Try.prog 9 #[.int .i64 a0, .int .i64 a1, .slice A2 l2.length c2, .slice A3 l3.length c3] w fun e w' => ∃ v0_ : Value, e = .returned (.tuple #[v0_, .bool r2]) ∧ Kd.R k52 52 w' w.heap.size (fun _ => True) v0_ r1 ∧ Below w.heap.size w w' := by
 have hu52 := Try.underlying52
 have HR2 := Aside0.mk hr2
 have HC2 := Aside0.mk hc2
 clear hr2 hc2
 have HR3 := Aside0.mk hr3
 have HC3 := Aside0.mk hc3
 clear hr3 hc3
 have HB := Aside0.mk (Below.refl w.heap.size w)
 have H : ((spec_GoodTerm.f k a0 a1 l2).bind fun t129 => (if t129 = true then (spec_PutAll.j0 k a0 a1 l2 l3 ((l3.length : Int) != a1)) else (spec_PutAll.j0 k a0 a1 l2 l3 true))) = some (r1, r2) := h
 clear h
 have HC5 := Aside0.mk H
 clear H
 go_enter Try.func9, Try.ntmps9
 go_upto_region 1 with (fail)
 go_cut [25] (fun v25 wc => ∃ (kq : Nat) (x25_4 : Bool), v25 = .bool x25_4 ∧ Aside0 (spec_PutAll.j0 kq a0 a1 l2 l3 x25_4 = some (r1, r2)) ∧ Aside0 (kq ≤ k) ∧ Aside0 (Below w.heap.size w wc))
 case first =>
  have H := HC5.out
  clear HC5
  replace H := Option.bind_eq_some_iff.mp H
  obtain ⟨t129, A60, H⟩ := H
  replace H : (if t129 = true then (spec_PutAll.j0 k a0 a1 l2 l3 ((l3.length : Int) != a1)) else (spec_PutAll.j0 k a0 a1 l2 l3 true)) = some (r1, r2) := H
  have A6 := Aside0.mk A60
  clear A60
  by_cases c7 : t129 = true
  ·subst c7
   have H1 : (spec_PutAll.j0 k a0 a1 l2 l3 ((l3.length : Int) != a1)) = some (r1, r2) := by rw [if_pos rfl] at H; exact H
   clear H
   have H := H1
   clear H1
   have H' := Aside0.mk H
   clear H
   go_wp2_with (first | ((with_reducible refine gate_callee (f := 26) rfl ?_); refine goesL_ (some 18) rfl rfl Try.func26 (by kernel_rfl) rfl #[.int .i64 a0, .int .i64 a1, .slice A2 l2.length c2] rfl qG ?_; (with_reducible refine (spec_GoodTerm.calls k a0 a1 _ _ l2 true _ ?side1 ?side2 A6.out).mono ?_); (case side1 => exact qC (Kd.C_below HR2.out HB.out)); (case side2 => exact HC2.out); rintro e w8 ⟨rfl, hb⟩; refine ⟨_, rfl, ?_⟩; have n0_ := Aside0.mk (below_step (qB) hb); clear HB; have HB := n0_; clear n0_; (try clear hb); (try clear hb2); (try clear hk); (try clear hi)))
   go_meet
   case rel => exact ⟨_, (((l3.length : Int) != a1)), qS, H', ⟨by first | omega | exact Nat.le_refl _⟩, ⟨qB⟩⟩
  ·replace c7 := Bool.eq_false_iff.mpr c7
   subst c7
   have H1 : (spec_PutAll.j0 k a0 a1 l2 l3 true) = some (r1, r2) := by rw [if_neg (show ¬ (false = true) by decide)] at H; exact H
   clear H
   have H := H1
   clear H1
   have H' := Aside0.mk H
   clear H
   go_wp2_with (first | ((with_reducible refine gate_callee (f := 26) rfl ?_); refine goesL_ (some 18) rfl rfl Try.func26 (by kernel_rfl) rfl #[.int .i64 a0, .int .i64 a1, .slice A2 l2.length c2] rfl qG ?_; (with_reducible refine (spec_GoodTerm.calls k a0 a1 _ _ l2 false _ ?side1 ?side2 A6.out).mono ?_); (case side1 => exact qC (Kd.C_below HR2.out HB.out)); (case side2 => exact HC2.out); rintro e w9 ⟨rfl, hb⟩; refine ⟨_, rfl, ?_⟩; have n0_ := Aside0.mk (below_step (qB) hb); clear HB; have HB := n0_; clear n0_; (try clear hb); (try clear hb2); (try clear hk); (try clear hi)))
   go_meet
   case rel => exact ⟨_, (true), qS, H', ⟨by first | omega | exact Nat.le_refl _⟩, ⟨qB⟩⟩
 case rest =>
  clear HC5
  try clear c2
  try clear p2
  try clear c3
  try clear c7
  try clear c9
  obtain ⟨kq, x25_4, rfl, HA, HJ4, HB⟩ := hcut
  cases kq with
  | zero => exact absurd HA.out (by simp [spec_PutAll.j0])
  | succ kj4 =>
   have H := HA.out
   clear HA
   simp only [spec_PutAll.j0] at H
   by_cases c10 : x25_4 = true
   ·subst c10
    have H1 : (some (([] : List (S52)), false)) = some (r1, r2) := by rw [if_pos rfl] at H; exact H
    clear H
    have H := H1
    clear H1
    simp only [Option.some.injEq, Prod.mk.injEq] at H
    obtain ⟨rfl, rfl⟩ := H
    go_wp2
    go_ret2
    exact ⟨_, qE, by first | exact Kd.R_nil _ _ _ _ _ | exact Kd.N_nil _ _ _ _ _ | exact Kd.V_nil _ _ _ _ _ | exact Kd.Q_nil _ _ _ _ _ | exact Kd.S_nil _ _ _ _ _, qB⟩
   ·replace c10 := Bool.eq_false_iff.mpr c10
    subst c10
    have H1 : (spec_PutAll.l0 kj4 a0 a1 l2 l3 l3 (l3.length : Int) 0) = some (r1, r2) := by rw [if_neg (show ¬ (false = true) by decide)] at H; exact H
    clear H
    have H := H1
    clear H1
    have H' := Aside0.mk H
    clear H
    go_wp2
    go_loopg [28] kj4 (fun kq v28 w' => ∃ (x28_2 : Int), v28 = .int .i64 x28_2 ∧ Aside0 (spec_PutAll.l0 kq a0 a1 l2 l3 l3 (l3.length : Int) x28_2 = some (r1, r2)) ∧ Aside0 (kq ≤ kj4) ∧ Aside0 (Below w.heap.size w w'))
    case atStart => exact ⟨(0), qS, H', ⟨Nat.le_refl _⟩, ⟨qB⟩⟩
    case round =>
     clear H'
     try clear c1
     try clear c2
     try clear p2
     try clear c3
     try clear c7
     try clear c9
     try clear c10
     try clear p2
     obtain ⟨x28_2, rfl, HA, HK2, HB⟩ := hrel
     cases gk with
     | zero => exact absurd HA.out (by simp [spec_PutAll.l0])
     | succ k2 =>
      have H := HA.out
      clear HA
      simp only [spec_PutAll.l0] at H
      by_cases c11 : x28_2 < (l3.length : Int)
      ·rw [if_pos c11] at H
       have c11b0 : decide (x28_2 < (l3.length : Int)) = true := decide_eq_true c11
       clear c11
       by_cases c12 : 0 ≤ x28_2
       ·rw [if_pos c12] at H
        have c12b0 : decide (0 ≤ x28_2) = true := decide_eq_true c12
        clear c12
        by_cases c13 : x28_2 < (l3.length : Int)
        ·rw [if_pos c13] at H
         have c13b0 : decide (x28_2 < (l3.length : Int)) = true := decide_eq_true c13
         clear c13
         replace H := Option.bind_eq_some_iff.mp H
         obtain ⟨t131, A140, H⟩ := H
         replace H : (if t131 = 1 then (spec_PutAll.l0 k2 a0 a1 l2 l3 l3 (l3.length : Int) (wrap64 (x28_2 + 1))) else (some (([] : List (S52)), false))) = some (r1, r2) := H
         have A14 := Aside0.mk A140
         clear A140
         by_cases c15 : t131 = 1
         ·rw [if_pos c15] at H
          have c15b0 : (t131 == 1) = true := beq_iff_eq.mpr c15
          have c15b1 : (t131 != 1) = false := bne_eq_false_iff_eq.mpr c15
          clear c15
          have H' := Aside0.mk H
          clear H
          have p130 : 0 ≤ (x28_2 : Int) := qD
          have q130 : x28_2 < (l3.length : Int) := qD
          obtain ⟨ad130, A130_0, c130_0, e130, hx130_0, hl130_0, hi130_0⟩ := at_L5 HR3.out x28_2 p130 q130
          cases e130
          replace hx130_0 := (HB.out.cell (World.block_lt_of_cell? w _ hx130_0)).trans hx130_0
          have HR130_0 := Aside0.mk hi130_0
          have HC130_0 := Aside0.mk hl130_0
          clear hi130_0 hl130_0
          replace p130 := eq_true p130
          replace q130 := eq_true q130
          go_wp2_with (first | ((with_reducible refine gate_callee (f := 27) rfl ?_); refine goesL_ (some 35) rfl rfl Try.func27 (by kernel_rfl) rfl #[.int .i64 a0, .int .i64 a1, .slice A130_0 (rd_L5 l3 x28_2).length c130_0] rfl qG ?_; (with_reducible refine (spec_l2Kind.calls k2 a0 a1 _ _ (rd_L5 l3 x28_2) t131 _ ?side1 ?side2 A14.out).mono ?_); (case side1 => exact qC (Kd.C_below HR130_0.out HB.out)); (case side2 => exact HC130_0.out); rintro e w16 ⟨rfl, hb⟩; refine ⟨_, rfl, ?_⟩; have n0_ := Aside0.mk (below_step (qB) hb); clear HB; have HB := n0_; clear n0_; (try clear hb); (try clear hb2); (try clear hk); (try clear hi)))
          go_roundg k2
          case measure => have := HJ4.out; have := HK2.out; omega
          case rel => exact ⟨(wrap64 (x28_2 + 1)), qS, H', ⟨by have := HJ4.out; have := HK2.out; omega⟩, ⟨qB⟩⟩
         ·rw [if_neg c15] at H
          have c15b0 : (t131 == 1) = false := beq_eq_false_iff_ne.mpr c15
          have c15b1 : (t131 != 1) = true := bne_iff_ne.mpr c15
          simp only [Option.some.injEq, Prod.mk.injEq] at H
          obtain ⟨rfl, rfl⟩ := H
          have p130 : 0 ≤ (x28_2 : Int) := qD
          have q130 : x28_2 < (l3.length : Int) := qD
          obtain ⟨ad130, A130_0, c130_0, e130, hx130_0, hl130_0, hi130_0⟩ := at_L5 HR3.out x28_2 p130 q130
          cases e130
          replace hx130_0 := (HB.out.cell (World.block_lt_of_cell? w _ hx130_0)).trans hx130_0
          have HR130_0 := Aside0.mk hi130_0
          have HC130_0 := Aside0.mk hl130_0
          clear hi130_0 hl130_0
          replace p130 := eq_true p130
          replace q130 := eq_true q130
          go_wp2_with (first | ((with_reducible refine gate_callee (f := 27) rfl ?_); refine goesL_ (some 35) rfl rfl Try.func27 (by kernel_rfl) rfl #[.int .i64 a0, .int .i64 a1, .slice A130_0 (rd_L5 l3 x28_2).length c130_0] rfl qG ?_; (with_reducible refine (spec_l2Kind.calls k2 a0 a1 _ _ (rd_L5 l3 x28_2) t131 _ ?side1 ?side2 A14.out).mono ?_); (case side1 => exact qC (Kd.C_below HR130_0.out HB.out)); (case side2 => exact HC130_0.out); rintro e w17 ⟨rfl, hb⟩; refine ⟨_, rfl, ?_⟩; have n0_ := Aside0.mk (below_step (qB) hb); clear HB; have HB := n0_; clear n0_; (try clear hb); (try clear hb2); (try clear hk); (try clear hi)))
          go_ret2
          exact ⟨_, qE, by first | exact Kd.R_nil _ _ _ _ _ | exact Kd.N_nil _ _ _ _ _ | exact Kd.V_nil _ _ _ _ _ | exact Kd.Q_nil _ _ _ _ _ | exact Kd.S_nil _ _ _ _ _, qB⟩
        ·rw [if_neg c13] at H
         exact absurd H (by simp)
       ·rw [if_neg c12] at H
        exact absurd H (by simp)
      ·rw [if_neg c11] at H
       have c11b0 : decide (x28_2 < (l3.length : Int)) = false := decide_eq_false c11
       clear c11
       have H' := Aside0.mk H
       clear H
       go_wp2
       go_loopg [12, 40] k2 (fun kq v12 v40 w' => ∃ (x12_3 : List (S52)) (x40_3 : Int), v40 = .int .i64 x40_3 ∧ Aside0 (spec_PutAll.l1 kq a0 a1 l3 x12_3 l2 (l2.length : Int) x40_3 = some (r1, r2)) ∧ Aside0 (kq ≤ k2) ∧ Aside0 (Kd.R k52 52 w' w.heap.size (fun _ => True) v12 x12_3) ∧ Aside0 (Below w.heap.size w w'))
       case atStart => exact ⟨(([] : List (S52))), (0), qS, H', ⟨Nat.le_refl _⟩, ⟨by first | exact Kd.R_nil _ _ _ _ _ | exact Kd.N_nil _ _ _ _ _ | exact Kd.V_nil _ _ _ _ _ | exact Kd.Q_nil _ _ _ _ _ | exact Kd.S_nil _ _ _ _ _⟩, ⟨qB⟩⟩
       case round =>
        clear H'
        try clear c1
        try clear p1
        try clear q1
        try clear hx1
        try clear c2
        try clear p2
        try clear c3
        try clear p6
        try clear c7
        try clear c9
        try clear c10
        try clear c11
        try clear c11b0
        try clear c12
        try clear c12b0
        try clear c13
        try clear c13b0
        try clear p13
        try clear q13
        try clear hx13
        try clear c15
        try clear c15b0
        try clear c15b1
        try clear hx130_0
        try clear p130
        try clear p2
        try clear q130
        obtain ⟨x12_3, x40_3, rfl, HA, HK3, HO_12, HB⟩ := hrel
        cases gk with
        | zero => exact absurd HA.out (by simp [spec_PutAll.l1])
        | succ k3 =>
         have H := HA.out
         clear HA
         simp only [spec_PutAll.l1] at H
         by_cases c18 : x40_3 < (l2.length : Int)
         ·rw [if_pos c18] at H
          have c18b0 : decide (x40_3 < (l2.length : Int)) = true := decide_eq_true c18
          clear c18
          by_cases c19 : 0 ≤ x40_3
          ·rw [if_pos c19] at H
           have c19b0 : decide (0 ≤ x40_3) = true := decide_eq_true c19
           clear c19
           by_cases c20 : x40_3 < (l2.length : Int)
           ·rw [if_pos c20] at H
            have c20b0 : decide (x40_3 < (l2.length : Int)) = true := decide_eq_true c20
            clear c20
            by_cases c21 : ((rd_T52 l2 x40_3).f0) = 2
            ·rw [if_pos c21] at H
             have c21b0 : (((rd_T52 l2 x40_3).f0) == 2) = true := beq_iff_eq.mpr c21
             have c21b1 : (((rd_T52 l2 x40_3).f0) != 2) = false := bne_eq_false_iff_eq.mpr c21
             clear c21
             by_cases c22 : 0 ≤ ((rd_T52 l2 x40_3).f1)
             ·rw [if_pos c22] at H
              have c22b0 : decide (0 ≤ ((rd_T52 l2 x40_3).f1)) = true := decide_eq_true c22
              clear c22
              by_cases c23 : ((rd_T52 l2 x40_3).f1) < (l3.length : Int)
              ·rw [if_pos c23] at H
               have c23b0 : decide (((rd_T52 l2 x40_3).f1) < (l3.length : Int)) = true := decide_eq_true c23
               clear c23
               by_cases c24 : x12_3.length + (rd_L5 l3 ((rd_T52 l2 x40_3).f1)).length < 8796093022208
               ·rw [if_pos c24] at H
                have LMc24 := Aside0.mk c24
                clear c24
                obtain ⟨y135, hy135⟩ : ∃ y_ : List (S52), y_ = (x12_3 ++ (rd_L5 l3 ((rd_T52 l2 x40_3).f1))) := ⟨_, rfl⟩
                replace H : (spec_PutAll.l1 k3 a0 a1 l3 y135 l2 (l2.length : Int) (wrap64 (x40_3 + 1))) = some (r1, r2) := qY hy135 H
                have Ny135 := Aside0.mk hy135
                clear hy135
                have H' := Aside0.mk H
                clear H
                have p132 : 0 ≤ (x40_3 : Int) := qD
                have q132 : x40_3 < (l2.length : Int) := qD
                obtain ⟨ad132, e132, hx132_0, hx132_1⟩ := at_T52 HR2.out x40_3 p132 q132
                cases e132
                replace hx132_0 := (HB.out.cell (World.block_lt_of_cell? w _ hx132_0)).trans hx132_0
                replace hx132_1 := (HB.out.cell (World.block_lt_of_cell? w _ hx132_1)).trans hx132_1
                replace p132 := eq_true p132
                replace q132 := eq_true q132
                go_wp2_with (first | ((with_reducible refine gate_dst (N := 14) rfl ?_); (try (refine gate_guard (by rfl) ?_; dsimp only)); refine box_event ?hg (N := 14) ?hd (cs := #[.int .i64 0, .int .u64 0]) (t := 52) ?hr ?_; (case hd => rfl); (case hg => rfl); (case hr => first | (go_simp; done) | (go_simp; rfl)); intro gb133 hg w25 hbox hb; have n0_ := Aside0.mk (Kd.R_below (Kd.R_elderB (qR HO_12.out) gb133 (Nat.le_of_eq hg.symm)) hb); have n1_ := Aside0.mk (below_step (qB) hb); have n2_ := Aside0.mk (hbox); have n3_ := Aside0.mk ((by rw [hg]; exact (below_size (qB)) : w.heap.size ≤ gb133)); have n4_ := Aside0.mk ((by rw [hg]; exact (below_size (qB)) : w.heap.size ≤ gb133)); clear HO_12; clear HB; have HO_12 := n0_; have HB := n1_; have BK133 := n2_; have GW133 := n3_; have GE133 := n4_; clear n0_ n1_ n2_ n3_ n4_; clear hb hbox hg; have hcz26_0 : w25.cell? ⟨gb133, 0, none⟩ = some (.int .i64 0) := (blk_cell BK133.out 0).trans rfl; have hcz26_1 : w25.cell? ⟨gb133, 1, none⟩ = some (.int .u64 0) := (blk_cell BK133.out 1).trans rfl; have hfz26_0 := blk_frozen BK133.out 0; have hfz26_1 := blk_frozen BK133.out 1; have p134 : 0 ≤ (((rd_T52 l2 x40_3).f1) : Int) := qD; have q134 : ((rd_T52 l2 x40_3).f1) < (l3.length : Int) := qD; obtain ⟨ad134, A134_0, c134_0, e134, hx134_0, hl134_0, hi134_0⟩ := at_L5 HR3.out ((rd_T52 l2 x40_3).f1) p134 q134; cases e134; have hn134_0 : ad134.block ≠ gb133 := Nat.ne_of_lt (Nat.lt_of_lt_of_le (by have := World.block_lt_of_cell? _ _ hx134_0; first | rwa [add_block] at this | exact this) GW133.out); have hn134_1 : ad134.block ≠ gb133 := Nat.ne_of_lt (Nat.lt_of_lt_of_le (by have := World.block_lt_of_cell? _ _ hx134_0; first | rwa [add_block] at this | exact this) GW133.out); replace hx134_0 := (HB.out.cell (World.block_lt_of_cell? w _ hx134_0)).trans hx134_0; have HR134_0 := Aside0.mk hi134_0; have HC134_0 := Aside0.mk hl134_0; clear hi134_0 hl134_0; replace hx134_0 := (cell_far (p := ⟨gb133, 0, none⟩) (qA hn134_0) (.int .i64 ((rd_T52 l2 x40_3).f0))).trans hx134_0; replace hx134_0 := (cell_far (p := ⟨gb133, 1, none⟩) (qA hn134_1) (.int .u64 ((rd_T52 l2 x40_3).f1))).trans hx134_0; clear hn134_0; clear hn134_1; replace p134 := eq_true p134; replace q134 := eq_true q134) | ((with_reducible refine gate_builtin (b := .append) (xs := #[.tmp 47, .tmp 52]) rfl ?_); (try (refine gate_guard (by rfl) ?_; dsimp only)); at_builtin; refine Kd.R_append_rows k52 (w0 := w) w.heap.size rfl (.tmp 47) (.tmp 52) 26 52 (.agg #[(.int .i64 0), (.int .u64 0)]) 16 rfl Try.underlying26 info52 rfl (by decide) (by omega) u12 x12_3 (rd_L5 l3 ((rd_T52 l2 x40_3).f1)) _ _ _ (fun k_ => k_ ≠ gb133) (fun _ => False) rfl rfl ?aO ?aR (fun _ _ h => h) (fun _ h => h.elim) ?aF ?aB ?aS ?aL ?_; (case aR => exact Kd.C_below HR134_0.out (qB)); (case aB => exact (qB)); (case aF => exact (fun k_ hk => Kd.freshB (g := gb133) (o := .cells #[.int .i64 ((rd_T52 l2 x40_3).f0), .int .u64 ((rd_T52 l2 x40_3).f1)] 52 (0, 0)) (by (with_reducible repeat (first | refine blk_drewN ?_ _ | refine blk_drew ?_ | refine blk_alloc ?_ _)); refine blk_put (cs := #[.int .i64 ((rd_T52 l2 x40_3).f0), .int .u64 0]) ?_ 1 _ rfl; refine blk_put (cs := #[.int .i64 0, .int .u64 0]) ?_ 0 _ rfl; exact qK BK133.out) k_ hk)); (case aO => exact (by (with_reducible repeat (first | apply Kd.R_alloc | apply Kd.R_drewN | apply Kd.R_drew)); exact Kd.R_mono (Kd.R_far (p := ⟨gb133, 1, none⟩) (Kd.R_far (p := ⟨gb133, 0, none⟩) (Kd.R_mono HO_12.out (fun k_ hk => (⟨hk, hk.2⟩ : _ ∧ k_ ≠ gb133))) (fun _ hk => hk.2) (.int .i64 ((rd_T52 l2 x40_3).f0))) (fun _ hk => hk.2) (.int .u64 ((rd_T52 l2 x40_3).f1))) (fun _ hk => hk.1.2))); (case aS => exact (below_size (qB))); (case aL => have := LMc24.out; omega); intro v136 w27 ho hb hg hat; rw [← Ny135.out] at ho; have n0_ := Aside0.mk (blk_grown (g := gb133) (o := .cells #[.int .i64 ((rd_T52 l2 x40_3).f0), .int .u64 ((rd_T52 l2 x40_3).f1)] 52 (0, 0)) (by (with_reducible repeat (first | refine blk_drewN ?_ _ | refine blk_drew ?_ | refine blk_alloc ?_ _)); refine blk_put (cs := #[.int .i64 ((rd_T52 l2 x40_3).f0), .int .u64 0]) ?_ 1 _ rfl; refine blk_put (cs := #[.int .i64 0, .int .u64 0]) ?_ 0 _ rfl; exact qK BK133.out) hg (Kd.R_away HO_12.out (fun _ hk => hk.2))); have n1_ := Aside0.mk (hb); have n2_ := Aside0.mk (ho); clear BK133; clear HB; clear HO_12; have BK133 := n0_; have HB := n1_; have HO137 := n2_; clear n0_ n1_ n2_; clear ho hb hg hat))
                go_roundg k3
                case measure => have := HJ4.out; have := HK2.out; have := HK3.out; omega
                case rel => exact ⟨(y135), (wrap64 (x40_3 + 1)), qS, H', ⟨by have := HJ4.out; have := HK2.out; have := HK3.out; omega⟩, ⟨by (with_reducible repeat (first | apply Kd.R_alloc | apply Kd.R_drewN | apply Kd.R_drew)); exact Kd.R_mono HO137.out (fun _ hk => trivial)⟩, ⟨qB⟩⟩
               ·rw [if_neg c24] at H
                exact absurd H (by simp)
              ·rw [if_neg c23] at H
               exact absurd H (by simp)
             ·rw [if_neg c22] at H
              exact absurd H (by simp)
            ·rw [if_neg c21] at H
             have c21b0 : (((rd_T52 l2 x40_3).f0) == 2) = false := beq_eq_false_iff_ne.mpr c21
             have c21b1 : (((rd_T52 l2 x40_3).f0) != 2) = true := bne_iff_ne.mpr c21
             by_cases c28 : x12_3.length < 8796093022208
             ·rw [if_pos c28] at H
              have LMc28 := Aside0.mk c28
              clear c28
              obtain ⟨y138, hy138⟩ : ∃ y_ : List (S52), y_ = (x12_3 ++ [(⟨(rd_T52 l2 x40_3).f0, (rd_T52 l2 x40_3).f1⟩ : S52)]) := ⟨_, rfl⟩
              replace H : (spec_PutAll.l1 k3 a0 a1 l3 y138 l2 (l2.length : Int) (wrap64 (x40_3 + 1))) = some (r1, r2) := qY hy138 H
              have Ny138 := Aside0.mk hy138
              clear hy138
              have H' := Aside0.mk H
              clear H
              have p132 : 0 ≤ (x40_3 : Int) := qD
              have q132 : x40_3 < (l2.length : Int) := qD
              obtain ⟨ad132, e132, hx132_0, hx132_1⟩ := at_T52 HR2.out x40_3 p132 q132
              cases e132
              replace hx132_0 := (HB.out.cell (World.block_lt_of_cell? w _ hx132_0)).trans hx132_0
              replace hx132_1 := (HB.out.cell (World.block_lt_of_cell? w _ hx132_1)).trans hx132_1
              replace p132 := eq_true p132
              replace q132 := eq_true q132
              go_wp2_with (first | ((with_reducible refine gate_dst (N := 14) rfl ?_); (try (refine gate_guard (by rfl) ?_; dsimp only)); refine box_event ?hg (N := 14) ?hd (cs := #[.int .i64 0, .int .u64 0]) (t := 52) ?hr ?_; (case hd => rfl); (case hg => rfl); (case hr => first | (go_simp; done) | (go_simp; rfl)); intro gb133 hg w29 hbox hb; have n0_ := Aside0.mk (Kd.R_below (Kd.R_elderB (qR HO_12.out) gb133 (Nat.le_of_eq hg.symm)) hb); have n1_ := Aside0.mk (below_step (qB) hb); have n2_ := Aside0.mk (hbox); have n3_ := Aside0.mk ((by rw [hg]; exact (below_size (qB)) : w.heap.size ≤ gb133)); have n4_ := Aside0.mk ((by rw [hg]; exact (below_size (qB)) : w.heap.size ≤ gb133)); clear HO_12; clear HB; have HO_12 := n0_; have HB := n1_; have BK133 := n2_; have GW133 := n3_; have GE133 := n4_; clear n0_ n1_ n2_ n3_ n4_; clear hb hbox hg; have hcz30_0 : w29.cell? ⟨gb133, 0, none⟩ = some (.int .i64 0) := (blk_cell BK133.out 0).trans rfl; have hcz30_1 : w29.cell? ⟨gb133, 1, none⟩ = some (.int .u64 0) := (blk_cell BK133.out 1).trans rfl; have hfz30_0 := blk_frozen BK133.out 0; have hfz30_1 := blk_frozen BK133.out 1) | ((with_reducible refine gate_builtin (b := .append) (xs := #[.tmp 54, .tmp 56]) rfl ?_); (try (refine gate_guard (by rfl) ?_; dsimp only)); at_builtin; refine Kd.R_append k52 (w0 := w) w.heap.size rfl (.tmp 54) (.tmp 56) 26 52 (.agg #[(.int .i64 0), (.int .u64 0)]) 16 rfl Try.underlying26 info52 rfl (by decide) (by omega) u12 x12_3 (⟨(rd_T52 l2 x40_3).f0, (rd_T52 l2 x40_3).f1⟩ : S52) [.int .i64 ((rd_T52 l2 x40_3).f0), .int .u64 ((rd_T52 l2 x40_3).f1)] (fun k_ => k_ ≠ gb133) (fun _ => False) rfl (by first | (go_simp; done) | (go_simp; rfl)) ?aP (fun _ hk => hk.elim) ?aF ?aO ?aB ?aS ?aL ?_; (case aP => exact k52_mkM _ _ _ (⟨(rd_T52 l2 x40_3).f0, (rd_T52 l2 x40_3).f1⟩ : S52)); (case aB => exact (qB)); (case aF => exact (fun k_ hk => Kd.freshB (g := gb133) (o := .cells #[.int .i64 ((rd_T52 l2 x40_3).f0), .int .u64 ((rd_T52 l2 x40_3).f1)] 52 (0, 0)) (by (with_reducible repeat (first | refine blk_drewN ?_ _ | refine blk_drew ?_ | refine blk_alloc ?_ _)); refine blk_put (cs := #[.int .i64 ((rd_T52 l2 x40_3).f0), .int .u64 0]) ?_ 1 _ rfl; refine blk_put (cs := #[.int .i64 0, .int .u64 0]) ?_ 0 _ rfl; exact qK BK133.out) k_ hk)); (case aO => exact (by (with_reducible repeat (first | apply Kd.R_alloc | apply Kd.R_drewN | apply Kd.R_drew)); exact Kd.R_mono (Kd.R_far (p := ⟨gb133, 1, none⟩) (Kd.R_far (p := ⟨gb133, 0, none⟩) (Kd.R_mono HO_12.out (fun k_ hk => (⟨hk, hk.2⟩ : _ ∧ k_ ≠ gb133))) (fun _ hk => hk.2) (.int .i64 ((rd_T52 l2 x40_3).f0))) (fun _ hk => hk.2) (.int .u64 ((rd_T52 l2 x40_3).f1))) (fun _ hk => hk.1.2))); (case aS => exact (below_size (qB))); (case aL => have := LMc28.out; omega); intro v139 w31 ho hb hg hat; rw [← Ny138.out] at ho; have n0_ := Aside0.mk (blk_grown (g := gb133) (o := .cells #[.int .i64 ((rd_T52 l2 x40_3).f0), .int .u64 ((rd_T52 l2 x40_3).f1)] 52 (0, 0)) (by (with_reducible repeat (first | refine blk_drewN ?_ _ | refine blk_drew ?_ | refine blk_alloc ?_ _)); refine blk_put (cs := #[.int .i64 ((rd_T52 l2 x40_3).f0), .int .u64 0]) ?_ 1 _ rfl; refine blk_put (cs := #[.int .i64 0, .int .u64 0]) ?_ 0 _ rfl; exact qK BK133.out) hg (Kd.R_away HO_12.out (fun _ hk => hk.2))); have n1_ := Aside0.mk (hb); have n2_ := Aside0.mk (ho); clear BK133; clear HB; clear HO_12; have BK133 := n0_; have HB := n1_; have HO140 := n2_; clear n0_ n1_ n2_; clear ho hb hg hat))
              go_roundg k3
              case measure => have := HJ4.out; have := HK2.out; have := HK3.out; omega
              case rel => exact ⟨(y138), (wrap64 (x40_3 + 1)), qS, H', ⟨by have := HJ4.out; have := HK2.out; have := HK3.out; omega⟩, ⟨by (with_reducible repeat (first | apply Kd.R_alloc | apply Kd.R_drewN | apply Kd.R_drew)); exact Kd.R_mono HO140.out (fun _ hk => trivial)⟩, ⟨qB⟩⟩
             ·rw [if_neg c28] at H
              exact absurd H (by simp)
           ·rw [if_neg c20] at H
            exact absurd H (by simp)
          ·rw [if_neg c19] at H
           exact absurd H (by simp)
         ·rw [if_neg c18] at H
          have c18b0 : decide (x40_3 < (l2.length : Int)) = false := decide_eq_false c18
          clear c18
          replace H := Option.bind_eq_some_iff.mp H
          obtain ⟨⟨t141, t144⟩, A320, H⟩ := H
          replace H : (some (t141, t144)) = some (r1, r2) := H
          have A32 := Aside0.mk A320
          clear A320
          simp only [Option.some.injEq, Prod.mk.injEq] at H
          obtain ⟨rfl, rfl⟩ := H
          obtain ⟨Ao33, co33, eo33⟩ := Kd.R_slice HO_12.out
          subst eo33
          go_wp2_with (first | ((with_reducible refine gate_callee (f := 28) rfl ?_); refine goesL_ (some 62) rfl rfl Try.func28 (by kernel_rfl) rfl #[.int .i64 a0, .int .i64 a1, .slice Ao33 x12_3.length co33] rfl qG ?_; (with_reducible refine (spec_l2Made.calls k3 a0 a1 (fun k_ => some k_ = (.slice Ao33 x12_3.length co33 : Value).ownBlock) (.slice Ao33 x12_3.length co33) x12_3 t141 t144 w _ ?side1 ?side2 A32.out).mono ?_); (case side1 => repeat (first | (with_reducible first | exact HB.out | apply below_alloc | apply pw_below_drewN | apply below_drew1) | exact HB.out)); (case side2 => exact Kd.R_tight rfl HO_12.out); rintro e w34 ⟨v142, rfl, ho0, hb, hkp⟩; refine ⟨_, rfl, ?_⟩; have n0_ := Aside0.mk (Kd.R_mono (ok' := fun k_ => True) ho0 (fun k_ hk_ => trivial)); have n1_ := Aside0.mk (hb); clear HB; clear HO_12; have HO143 := n0_; have HB := n1_; clear n0_ n1_; (try clear hb); (try clear hkp); (try clear ho0)))
          go_ret2
          exact ⟨_, qE, qR HO143.out, qB⟩

end Go.Proofs.Ytckdgmbmjfhodaa.X
