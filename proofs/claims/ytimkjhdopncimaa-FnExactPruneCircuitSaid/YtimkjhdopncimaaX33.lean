/- Go functions as Lean functions, each with the proof that its call comes to just its answer. Conditions: the arguments are of their kinds. -/
import Derived.Test.YtimkjhdopncimaaX0
import Derived.Test.YtimkjhdopncimaaX8
import Derived.Test.YtimkjhdopncimaaX26
namespace Go.Proofs.Ytimkjhdopncimaa.X
open Go.RowKit Go.Proofs.YtimkjhdopncimaaW.PrintWords Go.Proofs.YtimkjhdopncimaaW.PrintLast Go.Proofs.YtimkjhdopncimaaW.PrintMore
attribute [local go_sem] max2_int min2_int max_two min_two max_three min_three max_four min_four   -- for this text's walks alone
set_option linter.unusedVariables false
set_option linter.unusedSimpArgs false

abbrev bX33_0 : Array Bool := #[true, true, true, true, true, true, true, true, true, true, true, true, false, false]
abbrev bX33_1 : Array Bool := #[true, true, true, true, true, false, false, true, true, true, true, false, false, false]
abbrev bX33_2 : Array Bool := #[true, true, true, true, true, true, false, true, true, true, true, false, false, false]
abbrev bX33_3 : Array Bool := #[true, true, true, true, true, true, false, true, true, true, true, true, false, false]
abbrev bX33_4 : Array Bool := #[false, false, false, false, false, false, false, false, false]
abbrev bX33_5 : Array Bool := #[true, false, false, false, false, false, false, false, false]
abbrev bX33_6 : Array Bool := #[true, true, false, false, false, false, false, false, false]
abbrev bX33_7 : Array Bool := #[true, true, false, true, false, false, false, false, false]
abbrev bX33_8 : Array Bool := #[true, true, true, true, false, false, false, false, false]
abbrev bX33_9 : Array Bool := #[true, true, true, true, true, false, false, false, false]
abbrev bX33_10 : Array Bool := #[true, true, true, true, true, true, false, false, false]
abbrev bX33_11 : Array Bool := #[true, true, true, true, true, true, true, false, false]
abbrev bX33_12 : Array Bool := #[true, true, true, true, true, true, true, true, false]
abbrev bX33_13 : Array Bool := #[true, true, true, true, true, true, true, true, true]
/-! ### impl_PruneCircuit: function 31 -/
mutual
def impl_PruneCircuit.l0 : Nat → List Bool → List Int → Int → Int → Int → List (S59) → List Int → Int → Option (Int × (List (S59)) × List Int × Bool)
 | 0, _, _, _, _, _, _, _, _ => none
 | k + 1, x4, x5, x27, x28, x660000, x660001, x660002, x670000 => if x28 < x27 then (if 0 ≤ x28 then (if x28 < (x5.length : Int) then (impl_PruneCircuit.l0 k x4 (x5.set (x28 : Int).toNat x28) x27 (wrap64 (x28 + 1)) x660000 x660001 x660002 x670000) else (none)) else (none)) else (impl_PruneCircuit.l1 k x4 x5 x660001 (x660001.length : Int) 0 x660000 x660001 x660002 x670000 ([] : List (S59)))
def impl_PruneCircuit.l1 : Nat → List Bool → List Int → List (S59) → Int → Int → Int → List (S59) → List Int → Int → List (S59) → Option (Int × (List (S59)) × List Int × Bool)
 | 0, _, _, _, _, _, _, _, _, _, _ => none
 | k + 1, x4, x5, x37, x38, x39, x660000, x660001, x660002, x670000, x670001 => if x39 < x38 then (if 0 ≤ x39 then (if x39 < (x37.length : Int) then (if 0 ≤ (wrap64 (x660000 + x39)) then (if (wrap64 (x660000 + x39)) < (x4.length : Int) then (if (rdOf false x4 (wrap64 (x660000 + x39)) = true) then (if ((rd_T59 x37 x39).f0) = 1 then (if ((rd_T59 x37 x39).f0) > 2 then (if 0 ≤ ((rd_T59 x37 x39).f2) then (if ((rd_T59 x37 x39).f2) < (x5.length : Int) then ((impl_Circuit_wires.f x670000 x670001 ([] : List Int)).bind fun t675 => (if (wrap64 (x660000 + x39)) < (x5.length : Int) then (if x670001.length < 5864062014805 then (impl_PruneCircuit.l1 k x4 (x5.set ((wrap64 (x660000 + x39)) : Int).toNat t675) x37 x38 (wrap64 (x39 + 1)) x660000 x660001 x660002 x670000 (x670001 ++ [(⟨(rd_T59 x37 x39).f0, (rd_T59 x37 x39).f1, rd x5 ((rd_T59 x37 x39).f2)⟩ : S59)])) else (none)) else (none))) else (none)) else (none)) else ((impl_Circuit_wires.f x670000 x670001 ([] : List Int)).bind fun t680 => (if (wrap64 (x660000 + x39)) < (x5.length : Int) then (if x670001.length < 5864062014805 then (impl_PruneCircuit.l1 k x4 (x5.set ((wrap64 (x660000 + x39)) : Int).toNat t680) x37 x38 (wrap64 (x39 + 1)) x660000 x660001 x660002 x670000 (x670001 ++ [(⟨(rd_T59 x37 x39).f0, (rd_T59 x37 x39).f1, (rd_T59 x37 x39).f2⟩ : S59)])) else (none)) else (none)))) else (if 0 ≤ ((rd_T59 x37 x39).f1) then (if ((rd_T59 x37 x39).f1) < (x5.length : Int) then (if ((rd_T59 x37 x39).f0) > 2 then (if 0 ≤ ((rd_T59 x37 x39).f2) then (if ((rd_T59 x37 x39).f2) < (x5.length : Int) then ((impl_Circuit_wires.f x670000 x670001 ([] : List Int)).bind fun t687 => (if (wrap64 (x660000 + x39)) < (x5.length : Int) then (if x670001.length < 5864062014805 then (impl_PruneCircuit.l1 k x4 (x5.set ((wrap64 (x660000 + x39)) : Int).toNat t687) x37 x38 (wrap64 (x39 + 1)) x660000 x660001 x660002 x670000 (x670001 ++ [(⟨(rd_T59 x37 x39).f0, rd x5 ((rd_T59 x37 x39).f1), rd x5 ((rd_T59 x37 x39).f2)⟩ : S59)])) else (none)) else (none))) else (none)) else (none)) else ((impl_Circuit_wires.f x670000 x670001 ([] : List Int)).bind fun t692 => (if (wrap64 (x660000 + x39)) < (x5.length : Int) then (if x670001.length < 5864062014805 then (impl_PruneCircuit.l1 k x4 (x5.set ((wrap64 (x660000 + x39)) : Int).toNat t692) x37 x38 (wrap64 (x39 + 1)) x660000 x660001 x660002 x670000 (x670001 ++ [(⟨(rd_T59 x37 x39).f0, rd x5 ((rd_T59 x37 x39).f1), (rd_T59 x37 x39).f2⟩ : S59)])) else (none)) else (none)))) else (none)) else (none))) else (impl_PruneCircuit.l1 k x4 x5 x37 x38 (wrap64 (x39 + 1)) x660000 x660001 x660002 x670000 x670001)) else (none)) else (none)) else (none)) else (none)) else (impl_PruneCircuit.l2 k x5 x660002 (x660002.length : Int) 0 x670000 x670001 ([] : List Int))
def impl_PruneCircuit.l2 : Nat → List Int → List Int → Int → Int → Int → List (S59) → List Int → Option (Int × (List (S59)) × List Int × Bool)
 | 0, _, _, _, _, _, _, _ => none
 | k + 1, x5, x86, x87, x88, x670000, x670001, x670002 => if x88 < x87 then (if 0 ≤ x88 then (if x88 < (x86.length : Int) then (if 0 ≤ (rd x86 x88) then (if (rd x86 x88) < (x5.length : Int) then (if x670002.length < 17592186044416 then (impl_PruneCircuit.l2 k x5 x86 x87 (wrap64 (x88 + 1)) x670000 x670001 (x670002 ++ [rd x5 (rd x86 x88)])) else (none)) else (none)) else (none)) else (none)) else (none)) else (some (x670000, x670001, x670002, true))
end
def impl_PruneCircuit.f (k : Nat) (a0_0 : Int) (l0_1 : List (S59)) (l0_2 : List Int) : Option (Int × (List (S59)) × List Int × Bool) := (impl_GoodCircuit.f k a0_0 l0_1 l0_2).bind fun t661 => (if t661 = true then ((impl_Circuit_coneOf.f a0_0 l0_1 l0_2 l0_2).bind fun t662 => ((impl_Circuit_wires.f a0_0 l0_1 l0_2).bind fun t665 => (if 0 ≤ t665 then (if (t665 : Int).toNat ≤ 35184372088832 then (impl_PruneCircuit.l0 k t662 (List.replicate (t665 : Int).toNat 0) a0_0 0 a0_0 l0_1 l0_2 a0_0) else (none)) else (none)))) else (some (0, ([] : List (S59)), ([] : List Int), false)))
theorem impl_PruneCircuit.mono_l : ∀ k, (∀ y0 y1 y2 y3 y4 y5 y6 y7, LeO (impl_PruneCircuit.l0 k y0 y1 y2 y3 y4 y5 y6 y7) (impl_PruneCircuit.l0 (k + 1) y0 y1 y2 y3 y4 y5 y6 y7)) ∧ (∀ y0 y1 y2 y3 y4 y5 y6 y7 y8 y9, LeO (impl_PruneCircuit.l1 k y0 y1 y2 y3 y4 y5 y6 y7 y8 y9) (impl_PruneCircuit.l1 (k + 1) y0 y1 y2 y3 y4 y5 y6 y7 y8 y9)) ∧ (∀ y0 y1 y2 y3 y4 y5 y6, LeO (impl_PruneCircuit.l2 k y0 y1 y2 y3 y4 y5 y6) (impl_PruneCircuit.l2 (k + 1) y0 y1 y2 y3 y4 y5 y6))
 | 0 => ⟨fun _ _ _ _ _ _ _ _ r h => by simp [impl_PruneCircuit.l0] at h, fun _ _ _ _ _ _ _ _ _ _ r h => by simp [impl_PruneCircuit.l1] at h, fun _ _ _ _ _ _ _ r h => by simp [impl_PruneCircuit.l2] at h⟩
 | k + 1 => by
  obtain ⟨ih0, ih1, ih2⟩ := impl_PruneCircuit.mono_l k
  refine ⟨?_, ?_, ?_⟩
  ·intro y0 y1 y2 y3 y4 y5 y6 y7
   unfold impl_PruneCircuit.l0
   repeat' first
   | (with_reducible exact ih0 _ _ _ _ _ _ _ _)
   | (with_reducible exact ih1 _ _ _ _ _ _ _ _ _ _)
   | (with_reducible exact ih2 _ _ _ _ _ _ _)
   | (with_reducible exact impl_GoodCircuit.mono _ _ _ _)
   | (with_reducible first | exact LeO.refl _ | exact LeO.none _ | refine LeO.ite ?_ ?_ | refine LeO.bind ?_ (fun _ => ?_))
   | exact ih0 _ _ _ _ _ _ _ _
   | exact ih1 _ _ _ _ _ _ _ _ _ _
   | exact ih2 _ _ _ _ _ _ _
   | exact impl_GoodCircuit.mono _ _ _ _
   | exact LeO.none _ | refine LeO.ite ?_ ?_ | refine LeO.bind ?_ (fun _ => ?_)
  ·intro y0 y1 y2 y3 y4 y5 y6 y7 y8 y9
   unfold impl_PruneCircuit.l1
   repeat' first
   | (with_reducible exact ih0 _ _ _ _ _ _ _ _)
   | (with_reducible exact ih1 _ _ _ _ _ _ _ _ _ _)
   | (with_reducible exact ih2 _ _ _ _ _ _ _)
   | (with_reducible exact impl_GoodCircuit.mono _ _ _ _)
   | (with_reducible first | exact LeO.refl _ | exact LeO.none _ | refine LeO.ite ?_ ?_ | refine LeO.bind ?_ (fun _ => ?_))
   | exact ih0 _ _ _ _ _ _ _ _
   | exact ih1 _ _ _ _ _ _ _ _ _ _
   | exact ih2 _ _ _ _ _ _ _
   | exact impl_GoodCircuit.mono _ _ _ _
   | exact LeO.none _ | refine LeO.ite ?_ ?_ | refine LeO.bind ?_ (fun _ => ?_)
  ·intro y0 y1 y2 y3 y4 y5 y6
   unfold impl_PruneCircuit.l2
   repeat' first
   | (with_reducible exact ih0 _ _ _ _ _ _ _ _)
   | (with_reducible exact ih1 _ _ _ _ _ _ _ _ _ _)
   | (with_reducible exact ih2 _ _ _ _ _ _ _)
   | (with_reducible exact impl_GoodCircuit.mono _ _ _ _)
   | (with_reducible first | exact LeO.refl _ | exact LeO.none _ | refine LeO.ite ?_ ?_ | refine LeO.bind ?_ (fun _ => ?_))
   | exact ih0 _ _ _ _ _ _ _ _
   | exact ih1 _ _ _ _ _ _ _ _ _ _
   | exact ih2 _ _ _ _ _ _ _
   | exact impl_GoodCircuit.mono _ _ _ _
   | exact LeO.none _ | refine LeO.ite ?_ ?_ | refine LeO.bind ?_ (fun _ => ?_)
theorem impl_PruneCircuit.mono : ∀ a0 a1 a2 k, LeO (impl_PruneCircuit.f k a0 a1 a2) (impl_PruneCircuit.f (k + 1) a0 a1 a2) := by
 intro a0 a1 a2 k
 obtain ⟨ih0, ih1, ih2⟩ := impl_PruneCircuit.mono_l k
 unfold impl_PruneCircuit.f
 repeat' first
   | (with_reducible exact ih0 _ _ _ _ _ _ _ _)
   | (with_reducible exact ih1 _ _ _ _ _ _ _ _ _ _)
   | (with_reducible exact ih2 _ _ _ _ _ _ _)
   | (with_reducible exact impl_GoodCircuit.mono _ _ _ _)
   | (with_reducible first | exact LeO.refl _ | exact LeO.none _ | refine LeO.ite ?_ ?_ | refine LeO.bind ?_ (fun _ => ?_))
   | exact ih0 _ _ _ _ _ _ _ _
   | exact ih1 _ _ _ _ _ _ _ _ _ _
   | exact ih2 _ _ _ _ _ _ _
   | exact impl_GoodCircuit.mono _ _ _ _
   | exact LeO.none _ | refine LeO.ite ?_ ?_ | refine LeO.bind ?_ (fun _ => ?_)
def impl_PruneCircuit.T3 : Bool × List (List Nat × List Nat) := (true, [([], []), ([], []), ([1], [1]), ([0, 2], [0, 2]), ([], []), ([4, 3], [4]), ([5, 5], [5]), ([], []), ([7], [7]), ([8], [8]), ([], []), ([3, 5, 0, 1, 2, 3, 10], [3]), ([6, 11, 0, 1, 2, 3, 4, 5, 6, 10, 11], [6]), ([10, 9, 12, 0, 1, 2, 3, 4, 5, 6, 7, 8, 9, 10, 11, 12], [9, 10])])
def impl_PruneCircuit.B3 : List Nat := [0, 0, 2, 7, 0, 31, 63, 0, 128, 384, 0, 1087, 3199, 8191]
theorem impl_PruneCircuit.tab3 : rtab .any (opsOf Try.f31 3) = impl_PruneCircuit.T3 := by kernel_rfl
theorem impl_PruneCircuit.bits3 : waitsOk impl_PruneCircuit.T3.2 impl_PruneCircuit.B3 = true := by kernel_rfl
def impl_PruneCircuit.T17 : Bool × List (List Nat × List Nat) := (true, [([], []), ([], []), ([1], [1]), ([], []), ([2, 3], [2, 3]), ([], []), ([5], [5]), ([0, 4, 0, 1, 2, 3, 4, 5, 6], [0, 4]), ([7, 6, 6, 0, 1, 2, 3, 4, 5, 6], [6, 7])])
def impl_PruneCircuit.B17 : List Nat := [0, 0, 2, 0, 14, 0, 32, 127, 255]
theorem impl_PruneCircuit.tab17 : rtab .any (opsOf Try.f31 17) = impl_PruneCircuit.T17 := by kernel_rfl
theorem impl_PruneCircuit.bits17 : waitsOk impl_PruneCircuit.T17.2 impl_PruneCircuit.B17 = true := by kernel_rfl
def impl_PruneCircuit.T23 : Bool × List (List Nat × List Nat) := (true, [([], []), ([0], [0]), ([], []), ([], []), ([2, 3], [2, 3]), ([4], [4]), ([5], [5]), ([1, 6], [1, 6]), ([0, 1, 2, 3, 4, 5, 6, 7], []), ([8, 7, 7, 0, 1, 2, 3, 4, 5, 6, 7], [7, 8])])
def impl_PruneCircuit.B23 : List Nat := [0, 1, 0, 0, 12, 28, 60, 127, 255, 511]
theorem impl_PruneCircuit.tab23 : rtab .any (opsOf Try.f31 23) = impl_PruneCircuit.T23 := by kernel_rfl
theorem impl_PruneCircuit.bits23 : waitsOk impl_PruneCircuit.T23.2 impl_PruneCircuit.B23 = true := by kernel_rfl
set_option maxHeartbeats 8000000 in
set_option maxRecDepth 100000 in
theorem impl_PruneCircuit.calls (k : Nat) (a0_0 : Int) (A0_1 : Option Addr) (c0_1 : Nat) (l0_1 : List (S59)) (A0_2 : Option Addr) (c0_2 : Nat) (l0_2 : List Int) (r1 : Int) (r2 : List (S59)) (r3 : List Int) (r4 : Bool) (w : World) (hr0_1 : Kd.C k59 w A0_1 l0_1.length l0_1) (hc0_1 : l0_1.length ≤ c0_1) (hr0_2 : Kd.C (Kd.int .i64) w A0_2 l0_2.length l0_2) (hc0_2 : l0_2.length ≤ c0_2) (h : impl_PruneCircuit.f k a0_0 l0_1 l0_2 = some (r1, r2, r3, r4)) :
  Calls Try.prog 31 #[.agg #[.int .i64 a0_0, .slice A0_1 l0_1.length c0_1, .slice A0_2 l0_2.length c0_2]] w fun e w' => ∃ v1_ v2_ : Value, e = .returned (.tuple #[.agg #[.int .i64 r1, v1_, v2_], .bool r4]) ∧ Kd.R k59 59 w' w.heap.size (fun _ => True) v1_ r2 ∧ Kd.R (Kd.int .i64) 3 w' w.heap.size (fun _ => True) v2_ r3 ∧ Below w.heap.size w w' := by
 have hu30 := Try.underlying30
 have hu59 := Try.underlying59
 have HR0_1 := Aside0.mk hr0_1
 have HC0_1 := Aside0.mk hc0_1
 clear hr0_1 hc0_1
 have HR0_2 := Aside0.mk hr0_2
 have HC0_2 := Aside0.mk hc0_2
 clear hr0_2 hc0_2
 have HB := Aside0.mk (Below.refl w.heap.size w)
 have H : ((impl_GoodCircuit.f k a0_0 l0_1 l0_2).bind fun t661 => (if t661 = true then ((impl_Circuit_coneOf.f a0_0 l0_1 l0_2 l0_2).bind fun t662 => ((impl_Circuit_wires.f a0_0 l0_1 l0_2).bind fun t665 => (if 0 ≤ t665 then (if (t665 : Int).toNat ≤ 35184372088832 then (impl_PruneCircuit.l0 k t662 (List.replicate (t665 : Int).toNat 0) a0_0 0 a0_0 l0_1 l0_2 a0_0) else (none)) else (none)))) else (some (0, ([] : List (S59)), ([] : List Int), false)))) = some (r1, r2, r3, r4) := h
 clear h
 replace H := Option.bind_eq_some_iff.mp H
 obtain ⟨t661, A20, H⟩ := H
 replace H : (if t661 = true then ((impl_Circuit_coneOf.f a0_0 l0_1 l0_2 l0_2).bind fun t662 => ((impl_Circuit_wires.f a0_0 l0_1 l0_2).bind fun t665 => (if 0 ≤ t665 then (if (t665 : Int).toNat ≤ 35184372088832 then (impl_PruneCircuit.l0 k t662 (List.replicate (t665 : Int).toNat 0) a0_0 0 a0_0 l0_1 l0_2 a0_0) else (none)) else (none)))) else (some (0, ([] : List (S59)), ([] : List Int), false))) = some (r1, r2, r3, r4) := H
 have A2 := Aside0.mk A20
 clear A20
 by_cases c3 : t661 = true
 ·subst c3
  have H1 : ((impl_Circuit_coneOf.f a0_0 l0_1 l0_2 l0_2).bind fun t662 => ((impl_Circuit_wires.f a0_0 l0_1 l0_2).bind fun t665 => (if 0 ≤ t665 then (if (t665 : Int).toNat ≤ 35184372088832 then (impl_PruneCircuit.l0 k t662 (List.replicate (t665 : Int).toNat 0) a0_0 0 a0_0 l0_1 l0_2 a0_0) else (none)) else (none)))) = some (r1, r2, r3, r4) := by rw [if_pos rfl] at H; exact H
  clear H
  have H := H1
  clear H1
  replace H := Option.bind_eq_some_iff.mp H
  obtain ⟨t662, A40, H⟩ := H
  replace H : ((impl_Circuit_wires.f a0_0 l0_1 l0_2).bind fun t665 => (if 0 ≤ t665 then (if (t665 : Int).toNat ≤ 35184372088832 then (impl_PruneCircuit.l0 k t662 (List.replicate (t665 : Int).toNat 0) a0_0 0 a0_0 l0_1 l0_2 a0_0) else (none)) else (none))) = some (r1, r2, r3, r4) := H
  have A4 := Aside0.mk A40
  clear A40
  replace H := Option.bind_eq_some_iff.mp H
  obtain ⟨t665, A50, H⟩ := H
  replace H : (if 0 ≤ t665 then (if (t665 : Int).toNat ≤ 35184372088832 then (impl_PruneCircuit.l0 k t662 (List.replicate (t665 : Int).toNat 0) a0_0 0 a0_0 l0_1 l0_2 a0_0) else (none)) else (none)) = some (r1, r2, r3, r4) := H
  have A5 := Aside0.mk A50
  clear A50
  by_cases c6 : 0 ≤ t665
  ·rw [if_pos c6] at H
   have c6b0 := eq_true c6
   have c6b1 : decide (0 ≤ t665) = true := decide_eq_true c6
   clear c6
   by_cases c7 : (t665 : Int).toNat ≤ 35184372088832
   ·rw [if_pos c7] at H
    have c7b0 := eq_true c7
    have c7b1 : decide ((t665 : Int).toNat ≤ 35184372088832) = true := decide_eq_true c7
    clear c7
    obtain ⟨y666, hy666⟩ : ∃ y_ : List Int, y_ = (List.replicate (t665 : Int).toNat 0) := ⟨_, rfl⟩
    replace H : (impl_PruneCircuit.l0 k t662 y666 a0_0 0 a0_0 l0_1 l0_2 a0_0) = some (r1, r2, r3, r4) := qY hy666 H
    have Ny666 := Aside0.mk hy666
    clear hy666
    have H' := Aside0.mk H
    clear H
    go_enter Try.func31, Try.ntmps31
    try go_wp2_with (first | ((with_reducible refine gate_dst (N := 1) rfl ?_); refine box_event ?hg (N := 1) ?hd (cs := #[.int .i64 a0_0, .slice A0_1 l0_1.length c0_1, .slice A0_2 l0_2.length c0_2]) (t := 30) ?hr ?_; (case hd => rfl); (case hg => rfl); (case hr => first | (go_simp; done) | (go_simp; rfl)); intro gb659 hg w8 hbox hb; have n0_ := Aside0.mk (below_step (qB) hb); have n1_ := Aside0.mk (hbox); have n2_ := Aside0.mk ((by rw [hg]; exact (below_size (qB)) : w.heap.size ≤ gb659)); have n3_ := Aside0.mk ((by rw [hg]; exact (below_size (qB)) : w.heap.size ≤ gb659)); clear HB; have HB := n0_; have BK659 := n1_; have GW659 := n2_; have GE659 := n3_; clear n0_ n1_ n2_ n3_; clear hb hbox hg) | ((with_reducible refine gate_dst (N := 2) rfl ?_); refine box_event ?hg (N := 2) ?hd (cs := #[.int .i64 0, .slice none 0 0, .slice none 0 0]) (t := 30) ?hr ?_; (case hd => rfl); (case hg => rfl); (case hr => first | (go_simp; done) | (go_simp; rfl)); intro gb660 hg w9 hbox hb; have n0_ := Aside0.mk (blk_below (g := gb659) (o := .cells #[.int .i64 a0_0, .slice A0_1 l0_1.length c0_1, .slice A0_2 l0_2.length c0_2] 30 (0, 0)) (qK BK659.out) hb); have n1_ := Aside0.mk (below_step (qB) hb); have n2_ := Aside0.mk (hbox); have n3_ := Aside0.mk ((by rw [hg]; exact (below_size (qB)) : w.heap.size ≤ gb660)); have n4_ := Aside0.mk ((by rw [hg]; exact (below_size (qB)) : w.heap.size ≤ gb660)); have n5_ := Aside0.mk ((by rw [hg]; exact Nat.ne_of_lt (blk_lt (g := gb659) (o := .cells #[.int .i64 a0_0, .slice A0_1 l0_1.length c0_1, .slice A0_2 l0_2.length c0_2] 30 (0, 0)) (qK BK659.out)) : gb659 ≠ gb660)); have n6_ := Aside0.mk ((by rw [hg]; exact Nat.ne_of_gt (blk_lt (g := gb659) (o := .cells #[.int .i64 a0_0, .slice A0_1 l0_1.length c0_1, .slice A0_2 l0_2.length c0_2] 30 (0, 0)) (qK BK659.out)) : gb660 ≠ gb659)); clear BK659; clear HB; have BK659 := n0_; have HB := n1_; have BK660 := n2_; have GW660 := n3_; have GE660 := n4_; have NB659_660 := n5_; have NB660_659 := n6_; clear n0_ n1_ n2_ n3_ n4_ n5_ n6_; clear hb hbox hg; have hnb10 := NB659_660.out; have hnc10 := NB660_659.out; have hcz11_0 : w9.cell? ⟨gb659, 0, none⟩ = some (.int .i64 a0_0) := (blk_cell BK659.out 0).trans rfl; have hcz11_1 : w9.cell? ⟨gb659, 1, none⟩ = some (.slice A0_1 l0_1.length c0_1) := (blk_cell BK659.out 1).trans rfl; have hcz11_2 : w9.cell? ⟨gb659, 2, none⟩ = some (.slice A0_2 l0_2.length c0_2) := (blk_cell BK659.out 2).trans rfl; have hfz11_0 := blk_frozen BK659.out 0; have hfz11_1 := blk_frozen BK659.out 1; have hfz11_2 := blk_frozen BK659.out 2) | ((with_reducible refine gate_callee (f := 14) rfl ?_); refine goesL_ (some 13) rfl rfl Try.func14 (by kernel_rfl) rfl #[.agg #[.int .i64 a0_0, .slice A0_1 l0_1.length c0_1, .slice A0_2 l0_2.length c0_2]] rfl qG ?_; (with_reducible refine (impl_GoodCircuit.calls k a0_0 _ _ l0_1 _ _ l0_2 true _ ?side1 ?side2 ?side3 ?side4 A2.out).mono ?_); (case side1 => exact qC (Kd.C_below HR0_1.out HB.out)); (case side2 => exact HC0_1.out); (case side3 => exact qC (Kd.C_below HR0_2.out HB.out)); (case side4 => exact HC0_2.out); rintro e w12 ⟨rfl, hb⟩; refine ⟨_, rfl, ?_⟩; have n0_ := Aside0.mk (blk_below (g := gb659) (o := .cells #[.int .i64 a0_0, .slice A0_1 l0_1.length c0_1, .slice A0_2 l0_2.length c0_2] 30 (0, 0)) (qK BK659.out) hb); have n1_ := Aside0.mk (blk_below (g := gb660) (o := .cells #[.int .i64 0, .slice none 0 0, .slice none 0 0] 30 (0, 0)) (qK BK660.out) hb); have n2_ := Aside0.mk (below_step (qB) hb); clear BK659; clear BK660; clear HB; have BK659 := n0_; have BK660 := n1_; have HB := n2_; clear n0_ n1_ n2_; (try clear hb); (try clear hb2); (try clear hk); (try clear hi)))
    have n0_ := Aside0.mk (blk_drew BK659.out)
    have n1_ := Aside0.mk (blk_drew BK660.out)
    have n2_ := Aside0.mk (below_drew1 HB.out)
    clear BK659
    clear BK660
    clear HB
    have BK659 := n0_
    have BK660 := n1_
    have HB := n2_
    clear n0_ n1_ n2_
    refine start_ (n := 14) (S := fun w' => w'.cell? ⟨gb659, 0, none⟩ = some (.int .i64 a0_0) ∧ w'.cell? ⟨gb659, 1, none⟩ = some (.slice A0_1 l0_1.length c0_1) ∧ w'.cell? ⟨gb659, 2, none⟩ = some (.slice A0_2 l0_2.length c0_2)) (ds := []) #[false, false, false, false, false, false, false, false, false, false, false, false, false, false] (by kernel_rfl) rfl rfl ⟨(blk_cell BK659.out 0).trans rfl, (blk_cell BK659.out 1).trans rfl, (blk_cell BK659.out 2).trans rfl⟩ (fun hHeld => ?_); refine with_tabW impl_PruneCircuit.tab3 impl_PruneCircuit.bits3 (fun HT_ HW_ => ?_)
    generalize w12.drew = w13 at BK659 BK660 HB hHeld ⊢
    refine pure_ (i := 1) (N := some 17) (v := ?_) (a' := ?_) #[false, true, false, false, false, false, false, false, false, false, false, false, false, false] rfl rfl (any_of HT_.out (by kernel_rfl)) (fun _ _ _ h => h) (Or.inl ⟨by rfl, ?_⟩) ?_ ?_
    rotate_left
    ·intro w'
     go_simp
     with_reducible rfl
    rotate_left
    ·simp only [Act.put, List.setIfInBounds_toArray, List.set_cons_zero, List.set_cons_succ, i64_w, i32_w]
     rfl
    refine pure_ (i := 7) (N := some 23) (v := ?_) (a' := ?_) #[false, true, false, false, false, false, false, true, false, false, false, false, false, false] rfl rfl (any_of HT_.out (by kernel_rfl)) (fun _ _ _ h => h) (Or.inl ⟨by rfl, ?_⟩) ?_ ?_
    rotate_left
    ·intro w'
     go_simp
     with_reducible rfl
    rotate_left
    ·simp only [Act.put, List.setIfInBounds_toArray, List.set_cons_zero, List.set_cons_succ, i64_w, i32_w]
     rfl
    refine take_ (i := 0) (N := some 16) (v := ?_) (a' := ?_) #[true, true, false, false, false, false, false, true, false, false, false, false, false, false] rfl rfl (take_ofW HT_.out HW_.out (by kernel_rfl)) (fun _ _ _ h => h) (Or.inl ⟨by rfl, ?_⟩) hHeld ?_ ?_
    rotate_left
    ·rintro w' ⟨s0, s1, s2⟩
     go_simp
     with_reducible rfl
    rotate_left
    ·simp only [Act.put, List.setIfInBounds_toArray, List.set_cons_zero, List.set_cons_succ, i64_w, i32_w]
     rfl
    refine take_ (i := 2) (N := some 18) (v := ?_) (a' := ?_) #[true, true, true, false, false, false, false, true, false, false, false, false, false, false] rfl rfl (take_ofW HT_.out HW_.out (by kernel_rfl)) (fun _ _ _ h => h) (Or.inl ⟨by rfl, ?_⟩) hHeld ?_ ?_
    rotate_left
    ·rintro w' ⟨s0, s1, s2⟩
     go_simp
     with_reducible rfl
    rotate_left
    ·simp only [Act.put, List.setIfInBounds_toArray, List.set_cons_zero, List.set_cons_succ, i64_w, i32_w]
     rfl
    refine take_ (i := 4) (N := some 20) (v := ?_) (a' := ?_) #[true, true, true, false, true, false, false, true, false, false, false, false, false, false] rfl rfl (take_ofW HT_.out HW_.out (by kernel_rfl)) (fun _ _ _ h => h) (Or.inl ⟨by rfl, ?_⟩) hHeld ?_ ?_
    rotate_left
    ·rintro w' ⟨s0, s1, s2⟩
     go_simp
     with_reducible rfl
    rotate_left
    ·simp only [Act.put, List.setIfInBounds_toArray, List.set_cons_zero, List.set_cons_succ, i64_w, i32_w]
     rfl
    refine take_ (i := 8) (N := some 24) (v := ?_) (a' := ?_) #[true, true, true, false, true, false, false, true, true, false, false, false, false, false] rfl rfl (take_ofW HT_.out HW_.out (by kernel_rfl)) (fun _ _ _ h => h) (Or.inl ⟨by rfl, ?_⟩) hHeld ?_ ?_
    rotate_left
    ·rintro w' ⟨s0, s1, s2⟩
     go_simp
     with_reducible rfl
    rotate_left
    ·simp only [Act.put, List.setIfInBounds_toArray, List.set_cons_zero, List.set_cons_succ, i64_w, i32_w]
     rfl
    refine pure_ (i := 9) (N := some 25) (v := ?_) (a' := ?_) #[true, true, true, false, true, false, false, true, true, true, false, false, false, false] rfl rfl (any_of HT_.out (by kernel_rfl)) (fun _ _ _ h => h) (Or.inl ⟨by rfl, ?_⟩) ?_ ?_
    rotate_left
    ·intro w'
     go_simp
     with_reducible rfl
    rotate_left
    ·simp only [Act.put, List.setIfInBounds_toArray, List.set_cons_zero, List.set_cons_succ, i64_w, i32_w]
     rfl
    refine join_ (σ := Value × Value × Nat) 2 bX33_0 (fun s_ => [(19, s_.1), (21, .int .i64 t665), (22, s_.2.1), (6, .pointer (some ⟨s_.2.2, 0, none⟩)), (4, s_.1)]) (fun s_ w' => (w'.cell? ⟨gb659, 0, none⟩ = some (.int .i64 a0_0) ∧ w'.cell? ⟨gb659, 1, none⟩ = some (.slice A0_1 l0_1.length c0_1) ∧ w'.cell? ⟨gb659, 2, none⟩ = some (.slice A0_2 l0_2.length c0_2)) ∧ (Kd.R Kd.bool 4 w' w.heap.size (fun _ => True) s_.1 t662) ∧ (Kd.R (Kd.int .i64) 3 w' w.heap.size (fun _ => True) s_.2.1 y666) ∧ (w'.heap[gb659]? = some (.cells #[.int .i64 a0_0, .slice A0_1 l0_1.length c0_1, .slice A0_2 l0_2.length c0_2] 30 (0, 0))) ∧ (w'.heap[gb660]? = some (.cells #[.int .i64 0, .slice none 0 0, .slice none 0 0] 30 (0, 0))) ∧ (w'.heap[s_.2.2]? = some (.cells #[.int .i64 0, .slice none 0 0, .slice none 0 0] 30 (0, 0))) ∧ (w.heap.size ≤ s_.2.2) ∧ (w.heap.size ≤ s_.2.2) ∧ (gb659 ≠ s_.2.2) ∧ (s_.2.2 ≠ gb659) ∧ (gb660 ≠ s_.2.2) ∧ (s_.2.2 ≠ gb660) ∧ (Below w.heap.size w w')) ?_ ?_
    rotate_left
    ·intro hCont
     refine two_ (i := 3) (j := 10) (Ni := some 19) (Nj := some 6) #[true, true, true, true, true, false, false, true, true, true, false, false, false, false] #[true, true, true, false, true, false, false, true, true, true, true, false, false, false] rfl rfl rfl rfl (two_of HT_.out (by kernel_rfl)) (by decide) (by decide) (fun K hK => ?_) (fun K hK => ?_)
     ·skip
      refine goes_ Try.func55 (by kernel_rfl) rfl #[.agg #[.int .i64 a0_0, .slice A0_1 l0_1.length c0_1, .slice A0_2 l0_2.length c0_2], .slice A0_2 l0_2.length c0_2] (by rfl) rfl rfl qG ?_
      with_reducible refine (impl_Circuit_coneOf.calls a0_0 _ _ l0_1 _ _ l0_2 _ _ l0_2 t662 _ ?side1 ?side2 ?side3 ?side4 ?side5 ?side6 A4.out).mono ?_
      (case side1 => exact qC (Kd.C_below HR0_1.out HB.out))
      (case side2 => exact HC0_1.out)
      (case side3 => exact qC (Kd.C_below HR0_2.out HB.out))
      (case side4 => exact HC0_2.out)
      (case side5 => exact qC (Kd.C_below HR0_2.out HB.out))
      (case side6 => exact HC0_2.out)
      rintro e w14 ⟨v663, rfl, ho0, hb⟩
      refine ⟨_, rfl, ?_⟩
      have n0_ := Aside0.mk (Kd.R_lower ho0 (below_size (qB)))
      have n1_ := Aside0.mk (blk_below (g := gb659) (o := .cells #[.int .i64 a0_0, .slice A0_1 l0_1.length c0_1, .slice A0_2 l0_2.length c0_2] 30 (0, 0)) (qK BK659.out) hb)
      have n2_ := Aside0.mk (blk_below (g := gb660) (o := .cells #[.int .i64 0, .slice none 0 0, .slice none 0 0] 30 (0, 0)) (qK BK660.out) hb)
      have n3_ := Aside0.mk (below_step (qB) hb)
      clear BK659
      clear BK660
      clear HB
      have HO664 := n0_
      have BK659 := n1_
      have BK660 := n2_
      have HB := n3_
      clear n0_ n1_ n2_ n3_
      (try clear hb)
      (try clear hb2)
      (try clear hk)
      (try clear hi)
      (try clear ho0)
      refine hK.out _ _ ⟨(blk_cell BK659.out 0).trans rfl, (blk_cell BK659.out 1).trans rfl, (blk_cell BK659.out 2).trans rfl⟩ (fun hHeld => ?_)
      clear hK K
      refine norm_ (a' := ?_) ?_ ?_
      rotate_left
      ·show Act.put _ (some 19) _ = _
       simp only [Act.put, List.setIfInBounds_toArray, List.set_cons_zero, List.set_cons_succ, i64_w, i32_w]
       rfl
      refine two_ (i := 5) (j := 10) (Ni := some 21) (Nj := some 6) #[true, true, true, true, true, true, false, true, true, true, false, false, false, false] bX33_1 rfl rfl rfl rfl (two_of HT_.out (by kernel_rfl)) (by decide) (by decide) (fun K hK => ?_) (fun K hK => ?_)
      ·skip
       refine goes_ Try.func49 (by kernel_rfl) rfl #[.agg #[.int .i64 a0_0, .slice A0_1 l0_1.length c0_1, .slice A0_2 l0_2.length c0_2]] (by rfl) rfl rfl qG ?_
       with_reducible refine (impl_Circuit_wires.calls a0_0 _ _ l0_1 _ _ l0_2 t665 _ ?side1 ?side2 ?side3 ?side4 A5.out).mono ?_
       (case side1 => exact qC (Kd.C_below HR0_1.out HB.out))
       (case side2 => exact HC0_1.out)
       (case side3 => exact qC (Kd.C_below HR0_2.out HB.out))
       (case side4 => exact HC0_2.out)
       rintro e w15 ⟨rfl, hb⟩
       refine ⟨_, rfl, ?_⟩
       have n0_ := Aside0.mk (Kd.R_below (qR HO664.out) hb)
       have n1_ := Aside0.mk (blk_below (g := gb659) (o := .cells #[.int .i64 a0_0, .slice A0_1 l0_1.length c0_1, .slice A0_2 l0_2.length c0_2] 30 (0, 0)) (qK BK659.out) hb)
       have n2_ := Aside0.mk (blk_below (g := gb660) (o := .cells #[.int .i64 0, .slice none 0 0, .slice none 0 0] 30 (0, 0)) (qK BK660.out) hb)
       have n3_ := Aside0.mk (below_step (qB) hb)
       clear HO664
       clear BK659
       clear BK660
       clear HB
       have HO664 := n0_
       have BK659 := n1_
       have BK660 := n2_
       have HB := n3_
       clear n0_ n1_ n2_ n3_
       (try clear hb)
       (try clear hb2)
       (try clear hk)
       (try clear hi)
       refine hK.out _ _ ⟨(blk_cell BK659.out 0).trans rfl, (blk_cell BK659.out 1).trans rfl, (blk_cell BK659.out 2).trans rfl⟩ (fun hHeld => ?_)
       clear hK K
       refine norm_ (a' := ?_) ?_ ?_
       rotate_left
       ·show Act.put _ (some 21) _ = _
        simp only [Act.put, List.setIfInBounds_toArray, List.set_cons_zero, List.set_cons_succ, i64_w, i32_w]
        rfl
       refine two_ (i := 6) (j := 10) (Ni := some 22) (Nj := some 6) #[true, true, true, true, true, true, true, true, true, true, false, false, false, false] bX33_2 rfl rfl rfl rfl (two_of HT_.out (by kernel_rfl)) (by decide) (by decide) (fun K hK => ?_) (fun K hK => ?_)
       ·skip
        refine Kd.R_make_step (Kd.int .i64) _ 3 (by rfl) (N := 22) rfl 23 _ _ rfl t665 rfl rfl Try.underlying23 (.int .i64 0) 8 info3 rfl (by decide) (by omega) 0 (ok := fun _ => True) (okp := fun _ => True) rfl (fun _ hk => hk) trivial qD (Nat.le_trans (Nat.mul_le_mul_right _ (qD : t665.toNat ≤ 35184372088832)) (by omega)) (Below.refl _ _) (Nat.le_refl _) ?_
        intro v667 w16 ho17 hb hg_ hnew_
        clear hg_ hnew_
        (first | rw [← Ny666.out] at ho17 | (simp only [Int.reduceToNat] at ho17; rw [← Ny666.out] at ho17))
        have n0_ := Aside0.mk (Kd.R_below (qR HO664.out) hb)
        have n1_ := Aside0.mk (Kd.R_lower ho17 (below_size (qB)))
        have n2_ := Aside0.mk (blk_below (g := gb659) (o := .cells #[.int .i64 a0_0, .slice A0_1 l0_1.length c0_1, .slice A0_2 l0_2.length c0_2] 30 (0, 0)) (qK BK659.out) hb)
        have n3_ := Aside0.mk (blk_below (g := gb660) (o := .cells #[.int .i64 0, .slice none 0 0, .slice none 0 0] 30 (0, 0)) (qK BK660.out) hb)
        have n4_ := Aside0.mk (below_step (qB) hb)
        clear HO664
        clear BK659
        clear BK660
        clear HB
        have HO664 := n0_
        have HO668 := n1_
        have BK659 := n2_
        have BK660 := n3_
        have HB := n4_
        clear n0_ n1_ n2_ n3_ n4_
        clear hb ho17
        refine hK.out _ _ ⟨(blk_cell BK659.out 0).trans rfl, (blk_cell BK659.out 1).trans rfl, (blk_cell BK659.out 2).trans rfl⟩ (fun hHeld => ?_)
        clear hK K
        refine norm_ (a' := ?_) ?_ ?_
        rotate_left
        ·show Act.put _ (some 22) _ = _
         simp only [Act.put, List.setIfInBounds_toArray, List.set_cons_zero, List.set_cons_succ, i64_w, i32_w]
         rfl
        refine one_ (i := 10) (N := some 6) #[true, true, true, true, true, true, true, true, true, true, true, false, false, false] rfl rfl (one_of HT_.out (by kernel_rfl)) (by decide) (fun K hK => ?_)
        refine box_step ?hg (N := 6) ?hd (cs := #[.int .i64 0, .slice none 0 0, .slice none 0 0]) (t := 30) ?hr ?_; (case hd => rfl); (case hg => rfl); (case hr => first | (go_simp; done) | (go_simp; rfl))
        intro gb669 hg w18 hbox hb
        have n0_ := Aside0.mk (Kd.R_below (qR HO664.out) hb)
        have n1_ := Aside0.mk (Kd.R_below (qR HO668.out) hb)
        have n2_ := Aside0.mk (blk_below (g := gb659) (o := .cells #[.int .i64 a0_0, .slice A0_1 l0_1.length c0_1, .slice A0_2 l0_2.length c0_2] 30 (0, 0)) (qK BK659.out) hb)
        have n3_ := Aside0.mk (blk_below (g := gb660) (o := .cells #[.int .i64 0, .slice none 0 0, .slice none 0 0] 30 (0, 0)) (qK BK660.out) hb)
        have n4_ := Aside0.mk (below_step (qB) hb)
        have n5_ := Aside0.mk (hbox)
        have n6_ := Aside0.mk ((by rw [hg]; exact (below_size (qB)) : w.heap.size ≤ gb669))
        have n7_ := Aside0.mk ((by rw [hg]; exact (below_size (qB)) : w.heap.size ≤ gb669))
        have n8_ := Aside0.mk ((by rw [hg]; exact Nat.ne_of_lt (blk_lt (g := gb659) (o := .cells #[.int .i64 a0_0, .slice A0_1 l0_1.length c0_1, .slice A0_2 l0_2.length c0_2] 30 (0, 0)) (qK BK659.out)) : gb659 ≠ gb669))
        have n9_ := Aside0.mk ((by rw [hg]; exact Nat.ne_of_gt (blk_lt (g := gb659) (o := .cells #[.int .i64 a0_0, .slice A0_1 l0_1.length c0_1, .slice A0_2 l0_2.length c0_2] 30 (0, 0)) (qK BK659.out)) : gb669 ≠ gb659))
        have n10_ := Aside0.mk ((by rw [hg]; exact Nat.ne_of_lt (blk_lt (g := gb660) (o := .cells #[.int .i64 0, .slice none 0 0, .slice none 0 0] 30 (0, 0)) (qK BK660.out)) : gb660 ≠ gb669))
        have n11_ := Aside0.mk ((by rw [hg]; exact Nat.ne_of_gt (blk_lt (g := gb660) (o := .cells #[.int .i64 0, .slice none 0 0, .slice none 0 0] 30 (0, 0)) (qK BK660.out)) : gb669 ≠ gb660))
        clear HO664
        clear HO668
        clear BK659
        clear BK660
        clear HB
        have HO664 := n0_
        have HO668 := n1_
        have BK659 := n2_
        have BK660 := n3_
        have HB := n4_
        have BK669 := n5_
        have GW669 := n6_
        have GE669 := n7_
        have NB659_669 := n8_
        have NB669_659 := n9_
        have NB660_669 := n10_
        have NB669_660 := n11_
        clear n0_ n1_ n2_ n3_ n4_ n5_ n6_ n7_ n8_ n9_ n10_ n11_
        clear hb hbox hg
        refine hK.out _ _ ⟨(blk_cell BK659.out 0).trans rfl, (blk_cell BK659.out 1).trans rfl, (blk_cell BK659.out 2).trans rfl⟩ (fun hHeld => ?_)
        clear hK K
        refine norm_ (a' := ?_) ?_ ?_
        rotate_left
        ·show Act.put _ (some 6) _ = _
         simp only [Act.put, List.setIfInBounds_toArray, List.set_cons_zero, List.set_cons_succ, i64_w, i32_w]
         rfl
        refine pure_ (i := 11) (N := some 4) (v := ?_) (a' := ?_) bX33_0 rfl rfl (any_of HT_.out (by kernel_rfl)) (fun _ _ _ h => h) (Or.inl ⟨by rfl, ?_⟩) ?_ ?_
        rotate_left
        ·intro w'
         go_simp
         with_reducible rfl
        rotate_left
        ·simp only [Act.put, List.setIfInBounds_toArray, List.set_cons_zero, List.set_cons_succ, i64_w, i32_w]
         rfl
        exact norm_ (by simp only [putAll, Act.put, List.setIfInBounds_toArray, List.set_cons_zero, List.set_cons_succ]) (hCont (v663, v667, gb669) _ ⟨hHeld, (qR HO664.out), (qR HO668.out), (qK BK659.out), (qK BK660.out), (qK BK669.out), GW669.out, GE669.out, NB659_669.out, NB669_659.out, NB660_669.out, NB669_660.out, (qB)⟩)
       ·skip
        refine box_step ?hg (N := 6) ?hd (cs := #[.int .i64 0, .slice none 0 0, .slice none 0 0]) (t := 30) ?hr ?_; (case hd => rfl); (case hg => rfl); (case hr => first | (go_simp; done) | (go_simp; rfl))
        intro gb669 hg w16 hbox hb
        have n0_ := Aside0.mk (Kd.R_below (qR HO664.out) hb)
        have n1_ := Aside0.mk (blk_below (g := gb659) (o := .cells #[.int .i64 a0_0, .slice A0_1 l0_1.length c0_1, .slice A0_2 l0_2.length c0_2] 30 (0, 0)) (qK BK659.out) hb)
        have n2_ := Aside0.mk (blk_below (g := gb660) (o := .cells #[.int .i64 0, .slice none 0 0, .slice none 0 0] 30 (0, 0)) (qK BK660.out) hb)
        have n3_ := Aside0.mk (below_step (qB) hb)
        have n4_ := Aside0.mk (hbox)
        have n5_ := Aside0.mk ((by rw [hg]; exact (below_size (qB)) : w.heap.size ≤ gb669))
        have n6_ := Aside0.mk ((by rw [hg]; exact (below_size (qB)) : w.heap.size ≤ gb669))
        have n7_ := Aside0.mk ((by rw [hg]; exact Nat.ne_of_lt (blk_lt (g := gb659) (o := .cells #[.int .i64 a0_0, .slice A0_1 l0_1.length c0_1, .slice A0_2 l0_2.length c0_2] 30 (0, 0)) (qK BK659.out)) : gb659 ≠ gb669))
        have n8_ := Aside0.mk ((by rw [hg]; exact Nat.ne_of_gt (blk_lt (g := gb659) (o := .cells #[.int .i64 a0_0, .slice A0_1 l0_1.length c0_1, .slice A0_2 l0_2.length c0_2] 30 (0, 0)) (qK BK659.out)) : gb669 ≠ gb659))
        have n9_ := Aside0.mk ((by rw [hg]; exact Nat.ne_of_lt (blk_lt (g := gb660) (o := .cells #[.int .i64 0, .slice none 0 0, .slice none 0 0] 30 (0, 0)) (qK BK660.out)) : gb660 ≠ gb669))
        have n10_ := Aside0.mk ((by rw [hg]; exact Nat.ne_of_gt (blk_lt (g := gb660) (o := .cells #[.int .i64 0, .slice none 0 0, .slice none 0 0] 30 (0, 0)) (qK BK660.out)) : gb669 ≠ gb660))
        clear HO664
        clear BK659
        clear BK660
        clear HB
        have HO664 := n0_
        have BK659 := n1_
        have BK660 := n2_
        have HB := n3_
        have BK669 := n4_
        have GW669 := n5_
        have GE669 := n6_
        have NB659_669 := n7_
        have NB669_659 := n8_
        have NB660_669 := n9_
        have NB669_660 := n10_
        clear n0_ n1_ n2_ n3_ n4_ n5_ n6_ n7_ n8_ n9_ n10_
        clear hb hbox hg
        refine hK.out _ _ ⟨(blk_cell BK659.out 0).trans rfl, (blk_cell BK659.out 1).trans rfl, (blk_cell BK659.out 2).trans rfl⟩ (fun hHeld => ?_)
        clear hK K
        refine norm_ (a' := ?_) ?_ ?_
        rotate_left
        ·show Act.put _ (some 6) _ = _
         simp only [Act.put, List.setIfInBounds_toArray, List.set_cons_zero, List.set_cons_succ, i64_w, i32_w]
         rfl
        refine pure_ (i := 11) (N := some 4) (v := ?_) (a' := ?_) bX33_3 rfl rfl (any_of HT_.out (by kernel_rfl)) (fun _ _ _ h => h) (Or.inl ⟨by rfl, ?_⟩) ?_ ?_
        rotate_left
        ·intro w'
         go_simp
         with_reducible rfl
        rotate_left
        ·simp only [Act.put, List.setIfInBounds_toArray, List.set_cons_zero, List.set_cons_succ, i64_w, i32_w]
         rfl
        refine one_ (i := 6) (N := some 22) bX33_0 rfl rfl (one_of HT_.out (by kernel_rfl)) (by decide) (fun K hK => ?_)
        refine Kd.R_make_step (Kd.int .i64) _ 3 (by rfl) (N := 22) rfl 23 _ _ rfl t665 rfl rfl Try.underlying23 (.int .i64 0) 8 info3 rfl (by decide) (by omega) 0 (ok := fun _ => True) (okp := fun _ => True) rfl (fun _ hk => hk) trivial qD (Nat.le_trans (Nat.mul_le_mul_right _ (qD : t665.toNat ≤ 35184372088832)) (by omega)) (Below.refl _ _) (Nat.le_refl _) ?_
        intro v667 w17 ho18 hb hg_ hnew_
        clear hg_ hnew_
        (first | rw [← Ny666.out] at ho18 | (simp only [Int.reduceToNat] at ho18; rw [← Ny666.out] at ho18))
        have n0_ := Aside0.mk (Kd.R_below (qR HO664.out) hb)
        have n1_ := Aside0.mk (Kd.R_lower ho18 (below_size (qB)))
        have n2_ := Aside0.mk (blk_below (g := gb659) (o := .cells #[.int .i64 a0_0, .slice A0_1 l0_1.length c0_1, .slice A0_2 l0_2.length c0_2] 30 (0, 0)) (qK BK659.out) hb)
        have n3_ := Aside0.mk (blk_below (g := gb660) (o := .cells #[.int .i64 0, .slice none 0 0, .slice none 0 0] 30 (0, 0)) (qK BK660.out) hb)
        have n4_ := Aside0.mk (blk_below (g := gb669) (o := .cells #[.int .i64 0, .slice none 0 0, .slice none 0 0] 30 (0, 0)) (qK BK669.out) hb)
        have n5_ := Aside0.mk (below_step (qB) hb)
        clear HO664
        clear BK659
        clear BK660
        clear BK669
        clear HB
        have HO664 := n0_
        have HO668 := n1_
        have BK659 := n2_
        have BK660 := n3_
        have BK669 := n4_
        have HB := n5_
        clear n0_ n1_ n2_ n3_ n4_ n5_
        clear hb ho18
        refine hK.out _ _ ⟨(blk_cell BK659.out 0).trans rfl, (blk_cell BK659.out 1).trans rfl, (blk_cell BK659.out 2).trans rfl⟩ (fun hHeld => ?_)
        clear hK K
        refine norm_ (a' := ?_) ?_ ?_
        rotate_left
        ·show Act.put _ (some 22) _ = _
         simp only [Act.put, List.setIfInBounds_toArray, List.set_cons_zero, List.set_cons_succ, i64_w, i32_w]
         rfl
        exact norm_ (by simp only [putAll, Act.put, List.setIfInBounds_toArray, List.set_cons_zero, List.set_cons_succ]) (hCont (v663, v667, gb669) _ ⟨hHeld, (qR HO664.out), (qR HO668.out), (qK BK659.out), (qK BK660.out), (qK BK669.out), GW669.out, GE669.out, NB659_669.out, NB669_659.out, NB660_669.out, NB669_660.out, (qB)⟩)
      ·skip
       refine box_step ?hg (N := 6) ?hd (cs := #[.int .i64 0, .slice none 0 0, .slice none 0 0]) (t := 30) ?hr ?_; (case hd => rfl); (case hg => rfl); (case hr => first | (go_simp; done) | (go_simp; rfl))
       intro gb669 hg w15 hbox hb
       have n0_ := Aside0.mk (Kd.R_below (qR HO664.out) hb)
       have n1_ := Aside0.mk (blk_below (g := gb659) (o := .cells #[.int .i64 a0_0, .slice A0_1 l0_1.length c0_1, .slice A0_2 l0_2.length c0_2] 30 (0, 0)) (qK BK659.out) hb)
       have n2_ := Aside0.mk (blk_below (g := gb660) (o := .cells #[.int .i64 0, .slice none 0 0, .slice none 0 0] 30 (0, 0)) (qK BK660.out) hb)
       have n3_ := Aside0.mk (below_step (qB) hb)
       have n4_ := Aside0.mk (hbox)
       have n5_ := Aside0.mk ((by rw [hg]; exact (below_size (qB)) : w.heap.size ≤ gb669))
       have n6_ := Aside0.mk ((by rw [hg]; exact (below_size (qB)) : w.heap.size ≤ gb669))
       have n7_ := Aside0.mk ((by rw [hg]; exact Nat.ne_of_lt (blk_lt (g := gb659) (o := .cells #[.int .i64 a0_0, .slice A0_1 l0_1.length c0_1, .slice A0_2 l0_2.length c0_2] 30 (0, 0)) (qK BK659.out)) : gb659 ≠ gb669))
       have n8_ := Aside0.mk ((by rw [hg]; exact Nat.ne_of_gt (blk_lt (g := gb659) (o := .cells #[.int .i64 a0_0, .slice A0_1 l0_1.length c0_1, .slice A0_2 l0_2.length c0_2] 30 (0, 0)) (qK BK659.out)) : gb669 ≠ gb659))
       have n9_ := Aside0.mk ((by rw [hg]; exact Nat.ne_of_lt (blk_lt (g := gb660) (o := .cells #[.int .i64 0, .slice none 0 0, .slice none 0 0] 30 (0, 0)) (qK BK660.out)) : gb660 ≠ gb669))
       have n10_ := Aside0.mk ((by rw [hg]; exact Nat.ne_of_gt (blk_lt (g := gb660) (o := .cells #[.int .i64 0, .slice none 0 0, .slice none 0 0] 30 (0, 0)) (qK BK660.out)) : gb669 ≠ gb660))
       clear HO664
       clear BK659
       clear BK660
       clear HB
       have HO664 := n0_
       have BK659 := n1_
       have BK660 := n2_
       have HB := n3_
       have BK669 := n4_
       have GW669 := n5_
       have GE669 := n6_
       have NB659_669 := n7_
       have NB669_659 := n8_
       have NB660_669 := n9_
       have NB669_660 := n10_
       clear n0_ n1_ n2_ n3_ n4_ n5_ n6_ n7_ n8_ n9_ n10_
       clear hb hbox hg
       refine hK.out _ _ ⟨(blk_cell BK659.out 0).trans rfl, (blk_cell BK659.out 1).trans rfl, (blk_cell BK659.out 2).trans rfl⟩ (fun hHeld => ?_)
       clear hK K
       refine norm_ (a' := ?_) ?_ ?_
       rotate_left
       ·show Act.put _ (some 6) _ = _
        simp only [Act.put, List.setIfInBounds_toArray, List.set_cons_zero, List.set_cons_succ, i64_w, i32_w]
        rfl
       refine one_ (i := 5) (N := some 21) bX33_2 rfl rfl (one_of HT_.out (by kernel_rfl)) (by decide) (fun K hK => ?_)
       refine goes_ Try.func49 (by kernel_rfl) rfl #[.agg #[.int .i64 a0_0, .slice A0_1 l0_1.length c0_1, .slice A0_2 l0_2.length c0_2]] (by rfl) rfl rfl qG ?_
       with_reducible refine (impl_Circuit_wires.calls a0_0 _ _ l0_1 _ _ l0_2 t665 _ ?side1 ?side2 ?side3 ?side4 A5.out).mono ?_
       (case side1 => exact qC (Kd.C_below HR0_1.out HB.out))
       (case side2 => exact HC0_1.out)
       (case side3 => exact qC (Kd.C_below HR0_2.out HB.out))
       (case side4 => exact HC0_2.out)
       rintro e w16 ⟨rfl, hb⟩
       refine ⟨_, rfl, ?_⟩
       have n0_ := Aside0.mk (Kd.R_below (qR HO664.out) hb)
       have n1_ := Aside0.mk (blk_below (g := gb659) (o := .cells #[.int .i64 a0_0, .slice A0_1 l0_1.length c0_1, .slice A0_2 l0_2.length c0_2] 30 (0, 0)) (qK BK659.out) hb)
       have n2_ := Aside0.mk (blk_below (g := gb660) (o := .cells #[.int .i64 0, .slice none 0 0, .slice none 0 0] 30 (0, 0)) (qK BK660.out) hb)
       have n3_ := Aside0.mk (blk_below (g := gb669) (o := .cells #[.int .i64 0, .slice none 0 0, .slice none 0 0] 30 (0, 0)) (qK BK669.out) hb)
       have n4_ := Aside0.mk (below_step (qB) hb)
       clear HO664
       clear BK659
       clear BK660
       clear BK669
       clear HB
       have HO664 := n0_
       have BK659 := n1_
       have BK660 := n2_
       have BK669 := n3_
       have HB := n4_
       clear n0_ n1_ n2_ n3_ n4_
       (try clear hb)
       (try clear hb2)
       (try clear hk)
       (try clear hi)
       refine hK.out _ _ ⟨(blk_cell BK659.out 0).trans rfl, (blk_cell BK659.out 1).trans rfl, (blk_cell BK659.out 2).trans rfl⟩ (fun hHeld => ?_)
       clear hK K
       refine norm_ (a' := ?_) ?_ ?_
       rotate_left
       ·show Act.put _ (some 21) _ = _
        simp only [Act.put, List.setIfInBounds_toArray, List.set_cons_zero, List.set_cons_succ, i64_w, i32_w]
        rfl
       refine pure_ (i := 11) (N := some 4) (v := ?_) (a' := ?_) bX33_3 rfl rfl (any_of HT_.out (by kernel_rfl)) (fun _ _ _ h => h) (Or.inl ⟨by rfl, ?_⟩) ?_ ?_
       rotate_left
       ·intro w'
        go_simp
        with_reducible rfl
       rotate_left
       ·simp only [Act.put, List.setIfInBounds_toArray, List.set_cons_zero, List.set_cons_succ, i64_w, i32_w]
        rfl
       refine one_ (i := 6) (N := some 22) bX33_0 rfl rfl (one_of HT_.out (by kernel_rfl)) (by decide) (fun K hK => ?_)
       refine Kd.R_make_step (Kd.int .i64) _ 3 (by rfl) (N := 22) rfl 23 _ _ rfl t665 rfl rfl Try.underlying23 (.int .i64 0) 8 info3 rfl (by decide) (by omega) 0 (ok := fun _ => True) (okp := fun _ => True) rfl (fun _ hk => hk) trivial qD (Nat.le_trans (Nat.mul_le_mul_right _ (qD : t665.toNat ≤ 35184372088832)) (by omega)) (Below.refl _ _) (Nat.le_refl _) ?_
       intro v667 w17 ho18 hb hg_ hnew_
       clear hg_ hnew_
       (first | rw [← Ny666.out] at ho18 | (simp only [Int.reduceToNat] at ho18; rw [← Ny666.out] at ho18))
       have n0_ := Aside0.mk (Kd.R_below (qR HO664.out) hb)
       have n1_ := Aside0.mk (Kd.R_lower ho18 (below_size (qB)))
       have n2_ := Aside0.mk (blk_below (g := gb659) (o := .cells #[.int .i64 a0_0, .slice A0_1 l0_1.length c0_1, .slice A0_2 l0_2.length c0_2] 30 (0, 0)) (qK BK659.out) hb)
       have n3_ := Aside0.mk (blk_below (g := gb660) (o := .cells #[.int .i64 0, .slice none 0 0, .slice none 0 0] 30 (0, 0)) (qK BK660.out) hb)
       have n4_ := Aside0.mk (blk_below (g := gb669) (o := .cells #[.int .i64 0, .slice none 0 0, .slice none 0 0] 30 (0, 0)) (qK BK669.out) hb)
       have n5_ := Aside0.mk (below_step (qB) hb)
       clear HO664
       clear BK659
       clear BK660
       clear BK669
       clear HB
       have HO664 := n0_
       have HO668 := n1_
       have BK659 := n2_
       have BK660 := n3_
       have BK669 := n4_
       have HB := n5_
       clear n0_ n1_ n2_ n3_ n4_ n5_
       clear hb ho18
       refine hK.out _ _ ⟨(blk_cell BK659.out 0).trans rfl, (blk_cell BK659.out 1).trans rfl, (blk_cell BK659.out 2).trans rfl⟩ (fun hHeld => ?_)
       clear hK K
       refine norm_ (a' := ?_) ?_ ?_
       rotate_left
       ·show Act.put _ (some 22) _ = _
        simp only [Act.put, List.setIfInBounds_toArray, List.set_cons_zero, List.set_cons_succ, i64_w, i32_w]
        rfl
       exact norm_ (by simp only [putAll, Act.put, List.setIfInBounds_toArray, List.set_cons_zero, List.set_cons_succ]) (hCont (v663, v667, gb669) _ ⟨hHeld, (qR HO664.out), (qR HO668.out), (qK BK659.out), (qK BK660.out), (qK BK669.out), GW669.out, GE669.out, NB659_669.out, NB669_659.out, NB660_669.out, NB669_660.out, (qB)⟩)
     ·skip
      refine box_step ?hg (N := 6) ?hd (cs := #[.int .i64 0, .slice none 0 0, .slice none 0 0]) (t := 30) ?hr ?_; (case hd => rfl); (case hg => rfl); (case hr => first | (go_simp; done) | (go_simp; rfl))
      intro gb669 hg w14 hbox hb
      have n0_ := Aside0.mk (blk_below (g := gb659) (o := .cells #[.int .i64 a0_0, .slice A0_1 l0_1.length c0_1, .slice A0_2 l0_2.length c0_2] 30 (0, 0)) (qK BK659.out) hb)
      have n1_ := Aside0.mk (blk_below (g := gb660) (o := .cells #[.int .i64 0, .slice none 0 0, .slice none 0 0] 30 (0, 0)) (qK BK660.out) hb)
      have n2_ := Aside0.mk (below_step (qB) hb)
      have n3_ := Aside0.mk (hbox)
      have n4_ := Aside0.mk ((by rw [hg]; exact (below_size (qB)) : w.heap.size ≤ gb669))
      have n5_ := Aside0.mk ((by rw [hg]; exact (below_size (qB)) : w.heap.size ≤ gb669))
      have n6_ := Aside0.mk ((by rw [hg]; exact Nat.ne_of_lt (blk_lt (g := gb659) (o := .cells #[.int .i64 a0_0, .slice A0_1 l0_1.length c0_1, .slice A0_2 l0_2.length c0_2] 30 (0, 0)) (qK BK659.out)) : gb659 ≠ gb669))
      have n7_ := Aside0.mk ((by rw [hg]; exact Nat.ne_of_gt (blk_lt (g := gb659) (o := .cells #[.int .i64 a0_0, .slice A0_1 l0_1.length c0_1, .slice A0_2 l0_2.length c0_2] 30 (0, 0)) (qK BK659.out)) : gb669 ≠ gb659))
      have n8_ := Aside0.mk ((by rw [hg]; exact Nat.ne_of_lt (blk_lt (g := gb660) (o := .cells #[.int .i64 0, .slice none 0 0, .slice none 0 0] 30 (0, 0)) (qK BK660.out)) : gb660 ≠ gb669))
      have n9_ := Aside0.mk ((by rw [hg]; exact Nat.ne_of_gt (blk_lt (g := gb660) (o := .cells #[.int .i64 0, .slice none 0 0, .slice none 0 0] 30 (0, 0)) (qK BK660.out)) : gb669 ≠ gb660))
      clear BK659
      clear BK660
      clear HB
      have BK659 := n0_
      have BK660 := n1_
      have HB := n2_
      have BK669 := n3_
      have GW669 := n4_
      have GE669 := n5_
      have NB659_669 := n6_
      have NB669_659 := n7_
      have NB660_669 := n8_
      have NB669_660 := n9_
      clear n0_ n1_ n2_ n3_ n4_ n5_ n6_ n7_ n8_ n9_
      clear hb hbox hg
      refine hK.out _ _ ⟨(blk_cell BK659.out 0).trans rfl, (blk_cell BK659.out 1).trans rfl, (blk_cell BK659.out 2).trans rfl⟩ (fun hHeld => ?_)
      clear hK K
      refine norm_ (a' := ?_) ?_ ?_
      rotate_left
      ·show Act.put _ (some 6) _ = _
       simp only [Act.put, List.setIfInBounds_toArray, List.set_cons_zero, List.set_cons_succ, i64_w, i32_w]
       rfl
      refine one_ (i := 3) (N := some 19) bX33_1 rfl rfl (one_of HT_.out (by kernel_rfl)) (by decide) (fun K hK => ?_)
      refine goes_ Try.func55 (by kernel_rfl) rfl #[.agg #[.int .i64 a0_0, .slice A0_1 l0_1.length c0_1, .slice A0_2 l0_2.length c0_2], .slice A0_2 l0_2.length c0_2] (by rfl) rfl rfl qG ?_
      with_reducible refine (impl_Circuit_coneOf.calls a0_0 _ _ l0_1 _ _ l0_2 _ _ l0_2 t662 _ ?side1 ?side2 ?side3 ?side4 ?side5 ?side6 A4.out).mono ?_
      (case side1 => exact qC (Kd.C_below HR0_1.out HB.out))
      (case side2 => exact HC0_1.out)
      (case side3 => exact qC (Kd.C_below HR0_2.out HB.out))
      (case side4 => exact HC0_2.out)
      (case side5 => exact qC (Kd.C_below HR0_2.out HB.out))
      (case side6 => exact HC0_2.out)
      rintro e w15 ⟨v663, rfl, ho0, hb⟩
      refine ⟨_, rfl, ?_⟩
      have n0_ := Aside0.mk (Kd.R_lower ho0 (below_size (qB)))
      have n1_ := Aside0.mk (blk_below (g := gb659) (o := .cells #[.int .i64 a0_0, .slice A0_1 l0_1.length c0_1, .slice A0_2 l0_2.length c0_2] 30 (0, 0)) (qK BK659.out) hb)
      have n2_ := Aside0.mk (blk_below (g := gb660) (o := .cells #[.int .i64 0, .slice none 0 0, .slice none 0 0] 30 (0, 0)) (qK BK660.out) hb)
      have n3_ := Aside0.mk (blk_below (g := gb669) (o := .cells #[.int .i64 0, .slice none 0 0, .slice none 0 0] 30 (0, 0)) (qK BK669.out) hb)
      have n4_ := Aside0.mk (below_step (qB) hb)
      clear BK659
      clear BK660
      clear BK669
      clear HB
      have HO664 := n0_
      have BK659 := n1_
      have BK660 := n2_
      have BK669 := n3_
      have HB := n4_
      clear n0_ n1_ n2_ n3_ n4_
      (try clear hb)
      (try clear hb2)
      (try clear hk)
      (try clear hi)
      (try clear ho0)
      refine hK.out _ _ ⟨(blk_cell BK659.out 0).trans rfl, (blk_cell BK659.out 1).trans rfl, (blk_cell BK659.out 2).trans rfl⟩ (fun hHeld => ?_)
      clear hK K
      refine norm_ (a' := ?_) ?_ ?_
      rotate_left
      ·show Act.put _ (some 19) _ = _
       simp only [Act.put, List.setIfInBounds_toArray, List.set_cons_zero, List.set_cons_succ, i64_w, i32_w]
       rfl
      refine one_ (i := 5) (N := some 21) bX33_2 rfl rfl (one_of HT_.out (by kernel_rfl)) (by decide) (fun K hK => ?_)
      refine goes_ Try.func49 (by kernel_rfl) rfl #[.agg #[.int .i64 a0_0, .slice A0_1 l0_1.length c0_1, .slice A0_2 l0_2.length c0_2]] (by rfl) rfl rfl qG ?_
      with_reducible refine (impl_Circuit_wires.calls a0_0 _ _ l0_1 _ _ l0_2 t665 _ ?side1 ?side2 ?side3 ?side4 A5.out).mono ?_
      (case side1 => exact qC (Kd.C_below HR0_1.out HB.out))
      (case side2 => exact HC0_1.out)
      (case side3 => exact qC (Kd.C_below HR0_2.out HB.out))
      (case side4 => exact HC0_2.out)
      rintro e w16 ⟨rfl, hb⟩
      refine ⟨_, rfl, ?_⟩
      have n0_ := Aside0.mk (Kd.R_below (qR HO664.out) hb)
      have n1_ := Aside0.mk (blk_below (g := gb659) (o := .cells #[.int .i64 a0_0, .slice A0_1 l0_1.length c0_1, .slice A0_2 l0_2.length c0_2] 30 (0, 0)) (qK BK659.out) hb)
      have n2_ := Aside0.mk (blk_below (g := gb660) (o := .cells #[.int .i64 0, .slice none 0 0, .slice none 0 0] 30 (0, 0)) (qK BK660.out) hb)
      have n3_ := Aside0.mk (blk_below (g := gb669) (o := .cells #[.int .i64 0, .slice none 0 0, .slice none 0 0] 30 (0, 0)) (qK BK669.out) hb)
      have n4_ := Aside0.mk (below_step (qB) hb)
      clear HO664
      clear BK659
      clear BK660
      clear BK669
      clear HB
      have HO664 := n0_
      have BK659 := n1_
      have BK660 := n2_
      have BK669 := n3_
      have HB := n4_
      clear n0_ n1_ n2_ n3_ n4_
      (try clear hb)
      (try clear hb2)
      (try clear hk)
      (try clear hi)
      refine hK.out _ _ ⟨(blk_cell BK659.out 0).trans rfl, (blk_cell BK659.out 1).trans rfl, (blk_cell BK659.out 2).trans rfl⟩ (fun hHeld => ?_)
      clear hK K
      refine norm_ (a' := ?_) ?_ ?_
      rotate_left
      ·show Act.put _ (some 21) _ = _
       simp only [Act.put, List.setIfInBounds_toArray, List.set_cons_zero, List.set_cons_succ, i64_w, i32_w]
       rfl
      refine pure_ (i := 11) (N := some 4) (v := ?_) (a' := ?_) bX33_3 rfl rfl (any_of HT_.out (by kernel_rfl)) (fun _ _ _ h => h) (Or.inl ⟨by rfl, ?_⟩) ?_ ?_
      rotate_left
      ·intro w'
       go_simp
       with_reducible rfl
      rotate_left
      ·simp only [Act.put, List.setIfInBounds_toArray, List.set_cons_zero, List.set_cons_succ, i64_w, i32_w]
       rfl
      refine one_ (i := 6) (N := some 22) bX33_0 rfl rfl (one_of HT_.out (by kernel_rfl)) (by decide) (fun K hK => ?_)
      refine Kd.R_make_step (Kd.int .i64) _ 3 (by rfl) (N := 22) rfl 23 _ _ rfl t665 rfl rfl Try.underlying23 (.int .i64 0) 8 info3 rfl (by decide) (by omega) 0 (ok := fun _ => True) (okp := fun _ => True) rfl (fun _ hk => hk) trivial qD (Nat.le_trans (Nat.mul_le_mul_right _ (qD : t665.toNat ≤ 35184372088832)) (by omega)) (Below.refl _ _) (Nat.le_refl _) ?_
      intro v667 w17 ho18 hb hg_ hnew_
      clear hg_ hnew_
      (first | rw [← Ny666.out] at ho18 | (simp only [Int.reduceToNat] at ho18; rw [← Ny666.out] at ho18))
      have n0_ := Aside0.mk (Kd.R_below (qR HO664.out) hb)
      have n1_ := Aside0.mk (Kd.R_lower ho18 (below_size (qB)))
      have n2_ := Aside0.mk (blk_below (g := gb659) (o := .cells #[.int .i64 a0_0, .slice A0_1 l0_1.length c0_1, .slice A0_2 l0_2.length c0_2] 30 (0, 0)) (qK BK659.out) hb)
      have n3_ := Aside0.mk (blk_below (g := gb660) (o := .cells #[.int .i64 0, .slice none 0 0, .slice none 0 0] 30 (0, 0)) (qK BK660.out) hb)
      have n4_ := Aside0.mk (blk_below (g := gb669) (o := .cells #[.int .i64 0, .slice none 0 0, .slice none 0 0] 30 (0, 0)) (qK BK669.out) hb)
      have n5_ := Aside0.mk (below_step (qB) hb)
      clear HO664
      clear BK659
      clear BK660
      clear BK669
      clear HB
      have HO664 := n0_
      have HO668 := n1_
      have BK659 := n2_
      have BK660 := n3_
      have BK669 := n4_
      have HB := n5_
      clear n0_ n1_ n2_ n3_ n4_ n5_
      clear hb ho18
      refine hK.out _ _ ⟨(blk_cell BK659.out 0).trans rfl, (blk_cell BK659.out 1).trans rfl, (blk_cell BK659.out 2).trans rfl⟩ (fun hHeld => ?_)
      clear hK K
      refine norm_ (a' := ?_) ?_ ?_
      rotate_left
      ·show Act.put _ (some 22) _ = _
       simp only [Act.put, List.setIfInBounds_toArray, List.set_cons_zero, List.set_cons_succ, i64_w, i32_w]
       rfl
      exact norm_ (by simp only [putAll, Act.put, List.setIfInBounds_toArray, List.set_cons_zero, List.set_cons_succ]) (hCont (v663, v667, gb669) _ ⟨hHeld, (qR HO664.out), (qR HO668.out), (qK BK659.out), (qK BK660.out), (qK BK669.out), GW669.out, GE669.out, NB659_669.out, NB669_659.out, NB660_669.out, NB669_660.out, (qB)⟩)
    rintro ⟨v663, v667, gb669⟩ w19 ⟨hS_, h0_, h1_, h2_, h3_, h4_, h5_, h6_, h7_, h8_, h9_, h10_, h11_⟩
    have n0_ : Aside0 (Kd.R Kd.bool 4 w19 w.heap.size (fun _ => True) v663 t662) := ⟨h0_⟩
    have n1_ : Aside0 (Kd.R (Kd.int .i64) 3 w19 w.heap.size (fun _ => True) v667 y666) := ⟨h1_⟩
    have n2_ : Aside0 (w19.heap[gb659]? = some (.cells #[.int .i64 a0_0, .slice A0_1 l0_1.length c0_1, .slice A0_2 l0_2.length c0_2] 30 (0, 0))) := ⟨h2_⟩
    have n3_ : Aside0 (w19.heap[gb660]? = some (.cells #[.int .i64 0, .slice none 0 0, .slice none 0 0] 30 (0, 0))) := ⟨h3_⟩
    have n4_ : Aside0 (w19.heap[gb669]? = some (.cells #[.int .i64 0, .slice none 0 0, .slice none 0 0] 30 (0, 0))) := ⟨h4_⟩
    have n5_ : Aside0 (w.heap.size ≤ gb669) := ⟨h5_⟩
    have n6_ : Aside0 (w.heap.size ≤ gb669) := ⟨h6_⟩
    have n7_ : Aside0 (gb659 ≠ gb669) := ⟨h7_⟩
    have n8_ : Aside0 (gb669 ≠ gb659) := ⟨h8_⟩
    have n9_ : Aside0 (gb660 ≠ gb669) := ⟨h9_⟩
    have n10_ : Aside0 (gb669 ≠ gb660) := ⟨h10_⟩
    have n11_ : Aside0 (Below w.heap.size w w19) := ⟨h11_⟩
    clear BK659
    clear BK660
    clear HB
    clear h0_ h1_ h2_ h3_ h4_ h5_ h6_ h7_ h8_ h9_ h10_ h11_
    have HO664 := n0_
    have HO668 := n1_
    have BK659 := n2_
    have BK660 := n3_
    have BK669 := n4_
    have GW669 := n5_
    have GE669 := n6_
    have NB659_669 := n7_
    have NB669_659 := n8_
    have NB660_669 := n9_
    have NB669_660 := n10_
    have HB := n11_
    clear n0_ n1_ n2_ n3_ n4_ n5_ n6_ n7_ n8_ n9_ n10_ n11_
    have hHeld : w19.cell? ⟨gb659, 0, none⟩ = some (.int .i64 a0_0) ∧ w19.cell? ⟨gb659, 1, none⟩ = some (.slice A0_1 l0_1.length c0_1) ∧ w19.cell? ⟨gb659, 2, none⟩ = some (.slice A0_2 l0_2.length c0_2) := hS_
    refine norm_ (a' := ?_) ?_ ?_
    rotate_left
    ·simp only [putAll, Act.put, List.setIfInBounds_toArray, List.set_cons_zero, List.set_cons_succ]
     rfl
    refine pure_ (i := 12) (N := some 5) (v := ?_) (a' := ?_) #[true, true, true, true, true, true, true, true, true, true, true, true, true, false] rfl rfl (any_of HT_.out (by kernel_rfl)) (fun _ _ _ h => h) (Or.inl ⟨by rfl, ?_⟩) ?_ ?_
    rotate_left
    ·intro w'
     go_simp
     with_reducible rfl
    rotate_left
    ·simp only [Act.put, List.setIfInBounds_toArray, List.set_cons_zero, List.set_cons_succ, i64_w, i32_w]
     rfl
    refine one_ (i := 13) (N := none) #[true, true, true, true, true, true, true, true, true, true, true, true, true, true] rfl rfl (one_of HT_.out (by kernel_rfl)) (by decide) (fun K hK => ?_)
    have hs20 : w19.cell? ⟨gb669, 0, none⟩ = some (.int .i64 0) := (blk_cell BK669.out 0).trans rfl
    have hfs20 := blk_frozen BK669.out 0
    have hns20_0 := NB659_669.out
    have hns20_1 := NB660_669.out
    have hms20_0 := NB669_659.out
    have hms20_1 := NB669_660.out
    have hs21 : w19.cell? ⟨gb669, 1, none⟩ = some (.slice none 0 0) := (blk_cell BK669.out 1).trans rfl
    have hfs21 := blk_frozen BK669.out 1
    have hns21_0 := NB659_669.out
    have hns21_1 := NB660_669.out
    have hms21_0 := NB669_659.out
    have hms21_1 := NB669_660.out
    have hs22 : w19.cell? ⟨gb669, 2, none⟩ = some (.slice none 0 0) := (blk_cell BK669.out 2).trans rfl
    have hfs22 := blk_frozen BK669.out 2
    have hns22_0 := NB659_669.out
    have hns22_1 := NB660_669.out
    have hms22_0 := NB669_659.out
    have hms22_1 := NB669_660.out
    refine skip_ (w1 := ?_) (by rfl) rfl ?_ ?_
    rotate_left
    ·go_simp
     rfl
    refine hK.out _ _ ⟨((cell_far (p := ⟨gb669, _, none⟩) NB659_669.out _).trans (((cell_far (p := ⟨gb669, _, none⟩) NB659_669.out _).trans (((cell_far (p := ⟨gb669, _, none⟩) NB659_669.out _).trans (hHeld.1)))))), ((cell_far (p := ⟨gb669, _, none⟩) NB659_669.out _).trans (((cell_far (p := ⟨gb669, _, none⟩) NB659_669.out _).trans (((cell_far (p := ⟨gb669, _, none⟩) NB659_669.out _).trans (hHeld.2.1)))))), ((cell_far (p := ⟨gb669, _, none⟩) NB659_669.out _).trans (((cell_far (p := ⟨gb669, _, none⟩) NB659_669.out _).trans (((cell_far (p := ⟨gb669, _, none⟩) NB659_669.out _).trans (hHeld.2.2))))))⟩ (fun hHeld => ?_)
    clear hK K
    refine done_ (done_of HT_.out (by kernel_rfl)) ?_
    have hnb23 := NB659_669.out
    have hnc23 := NB669_659.out
    have hcz24_0 : w19.cell? ⟨gb659, 0, none⟩ = some (.int .i64 a0_0) := (blk_cell BK659.out 0).trans rfl
    have hcz24_1 : w19.cell? ⟨gb659, 1, none⟩ = some (.slice A0_1 l0_1.length c0_1) := (blk_cell BK659.out 1).trans rfl
    have hcz24_2 : w19.cell? ⟨gb659, 2, none⟩ = some (.slice A0_2 l0_2.length c0_2) := (blk_cell BK659.out 2).trans rfl
    have hfz24_0 := blk_frozen BK659.out 0
    have hfz24_1 := blk_frozen BK659.out 1
    have hfz24_2 := blk_frozen BK659.out 2
    try go_wp2
    go_loopg [28] k (fun kq v28 w' => ∃ (x5_1 : List Int) (x28_1 : Int), v28 = .int .i64 x28_1 ∧ Aside0 (impl_PruneCircuit.l0 kq t662 x5_1 a0_0 x28_1 a0_0 l0_1 l0_2 a0_0 = some (r1, r2, r3, r4)) ∧ Aside0 (kq ≤ k) ∧ Aside0 (Kd.R Kd.bool 4 w' w.heap.size (fun _ => True) v663 t662) ∧ Aside0 (Kd.R (Kd.int .i64) 3 w' w.heap.size (fun _ => True) v667 x5_1) ∧ Aside0 (w'.heap[gb659]? = some (.cells #[.int .i64 a0_0, (.slice A0_1 l0_1.length c0_1), (.slice A0_2 l0_2.length c0_2)] 30 (0, 0))) ∧ Aside0 (w'.heap[gb660]? = some (.cells #[.int .i64 0, (.slice none 0 0), (.slice none 0 0)] 30 (0, 0))) ∧ Aside0 (w'.heap[gb669]? = some (.cells #[.int .i64 a0_0, (.slice none 0 0), (.slice none 0 0)] 30 (0, 0))) ∧ Aside0 (Below w.heap.size w w'))
    case atStart => exact ⟨(y666), (0), qS, H', ⟨Nat.le_refl _⟩, ⟨by (with_reducible repeat (first | apply Kd.R_alloc | apply Kd.R_drewN | apply Kd.R_drew)); exact Kd.R_mono (Kd.R_far (p := ⟨gb669, 2, none⟩) (Kd.R_far (p := ⟨gb669, 1, none⟩) (Kd.R_far (p := ⟨gb669, 0, none⟩) (Kd.R_types HO664.out BK669.out (by decide)) (fun _ hk => hk.2) (.int .i64 a0_0)) (fun _ hk => hk.2) (.slice none 0 0)) (fun _ hk => hk.2) (.slice none 0 0)) (fun _ hk => trivial)⟩, ⟨by (with_reducible repeat (first | apply Kd.R_alloc | apply Kd.R_drewN | apply Kd.R_drew)); exact Kd.R_mono (Kd.R_far (p := ⟨gb669, 2, none⟩) (Kd.R_far (p := ⟨gb669, 1, none⟩) (Kd.R_far (p := ⟨gb669, 0, none⟩) (Kd.R_types HO668.out BK669.out (by decide)) (fun _ hk => hk.2) (.int .i64 a0_0)) (fun _ hk => hk.2) (.slice none 0 0)) (fun _ hk => hk.2) (.slice none 0 0)) (fun _ hk => trivial)⟩, ⟨by (with_reducible repeat (first | refine blk_drewN ?_ _ | refine blk_drew ?_ | refine blk_alloc ?_ _)); refine blk_far ?_ NB659_669.out _; (with_reducible repeat (first | refine blk_drewN ?_ _ | refine blk_drew ?_ | refine blk_alloc ?_ _)); refine blk_far ?_ NB659_669.out _; (with_reducible repeat (first | refine blk_drewN ?_ _ | refine blk_drew ?_ | refine blk_alloc ?_ _)); refine blk_far ?_ NB659_669.out _; exact qK BK659.out⟩, ⟨by (with_reducible repeat (first | refine blk_drewN ?_ _ | refine blk_drew ?_ | refine blk_alloc ?_ _)); refine blk_far ?_ NB660_669.out _; (with_reducible repeat (first | refine blk_drewN ?_ _ | refine blk_drew ?_ | refine blk_alloc ?_ _)); refine blk_far ?_ NB660_669.out _; (with_reducible repeat (first | refine blk_drewN ?_ _ | refine blk_drew ?_ | refine blk_alloc ?_ _)); refine blk_far ?_ NB660_669.out _; exact qK BK660.out⟩, ⟨by (with_reducible repeat (first | refine blk_drewN ?_ _ | refine blk_drew ?_ | refine blk_alloc ?_ _)); refine blk_put (cs := #[.int .i64 a0_0, .slice none 0 0, .slice none 0 0]) ?_ 2 _ rfl; refine blk_put (cs := #[.int .i64 a0_0, .slice none 0 0, .slice none 0 0]) ?_ 1 _ rfl; refine blk_put (cs := #[.int .i64 0, .slice none 0 0, .slice none 0 0]) ?_ 0 _ rfl; exact qK BK669.out⟩, ⟨qB⟩⟩
    case round =>
     clear H'
     try clear c2
     try clear p2
     try clear c4
     try clear c5
     try clear c23
     try clear hcz24_0
     try clear hcz24_1
     try clear hcz24_2
     try clear hfz24_0
     try clear hfz24_1
     try clear hfz24_2
     obtain ⟨x5_1, x28_1, rfl, HA, HK1, HO_4, HO_5, BK659, BK660, BK669, HB⟩ := hrel
     cases gk with
     | zero => exact absurd HA.out (by simp [impl_PruneCircuit.l0])
     | succ k1 =>
      have H := HA.out
      clear HA
      simp only [impl_PruneCircuit.l0] at H
      by_cases c25 : x28_1 < a0_0
      ·rw [if_pos c25] at H
       have c25b0 : decide (x28_1 < a0_0) = true := decide_eq_true c25
       clear c25
       by_cases c26 : 0 ≤ x28_1
       ·rw [if_pos c26] at H
        have c26b0 : decide (0 ≤ x28_1) = true := decide_eq_true c26
        clear c26
        by_cases c27 : x28_1 < (x5_1.length : Int)
        ·rw [if_pos c27] at H
         have c27b0 : decide (x28_1 < (x5_1.length : Int)) = true := decide_eq_true c27
         clear c27
         obtain ⟨y670, hy670⟩ : ∃ y_ : List Int, y_ = (x5_1.set (x28_1 : Int).toNat x28_1) := ⟨_, rfl⟩
         replace H : (impl_PruneCircuit.l0 k1 t662 y670 a0_0 (wrap64 (x28_1 + 1)) a0_0 l0_1 l0_2 a0_0) = some (r1, r2, r3, r4) := qY hy670 H
         have Ny670 := Aside0.mk hy670
         clear hy670
         have H' := Aside0.mk H
         clear H
         have p28 : 0 ≤ (x28_1 : Int) := qD
         have q28 : (x28_1 : Int) < ((x5_1.length : Int) : Int) := qD
         obtain ⟨go28, co28, eo28, gb28, gl28, cl28, HG28⟩ := Kd.R_form HO_5.out (by omega)
         (first | cases eo28 | (injection eo28 with ea_ en_ ec_; (first | subst ea_ | (injection ea_ with ea_; subst ea_)); subst ec_; clear en_))
         have GB28 := Aside0.mk gb28
         have GG28 := Aside0.mk HG28
         clear gb28 gl28 HG28
         obtain ⟨hx28_0, hf28_0⟩ := Kd.R_celln 0 HO_5.out (x28_1 : Int) p28 q28
         replace p28 := eq_true p28
         replace q28 := eq_true q28
         have HP29 := Kd.R_putg HO_5.out (x28_1 : Int) x28_1
         go_wp2_with (first | ((with_reducible refine gate_store (t := 3) (p := 34) rfl ?_); refine store_event (t := 3) (p := 34) (v := ?vo_w30) (w1 := (wr.setCell ⟨go28, (x28_1 : Int).toNat, none⟩ (.int .i64 x28_1))) ?hg ?ho ?hn ?hr ?_; (case ho => rfl); (case hg => rfl); (case hn => rfl); (case hr => first | (go_simp; done) | (go_simp; rfl)); intro w30 hw; have hg : wr.grownBy w30 (some go28) := (by rw [hw]; exact HP29.2); have hp_ : Kd.R (Kd.int .i64) 3 w30 w.heap.size (fun _ => True) (.slice (some ⟨go28, 0, none⟩) x5_1.length co28) y670 := (by rw [hw, Ny670.out]; exact HP29.1); clear HP29; have n0_ := Aside0.mk (Kd.R_over' (v := (.slice (some ⟨go28, 0, none⟩) x5_1.length co28)) (qR HO_4.out) (Kd.R_typed HO_5.out) (by decide) hg); have n1_ := Aside0.mk (hp_); have n2_ := Aside0.mk (blk_grown (g := gb659) (o := .cells #[.int .i64 a0_0, .slice A0_1 l0_1.length c0_1, .slice A0_2 l0_2.length c0_2] 30 (0, 0)) (qK BK659.out) hg (Kd.R_ne HO_5.out BK659.out (by decide))); have n3_ := Aside0.mk (blk_grown (g := gb660) (o := .cells #[.int .i64 0, .slice none 0 0, .slice none 0 0] 30 (0, 0)) (qK BK660.out) hg (Kd.R_ne HO_5.out BK660.out (by decide))); have n4_ := Aside0.mk (blk_grown (g := gb669) (o := .cells #[.int .i64 a0_0, .slice none 0 0, .slice none 0 0] 30 (0, 0)) (qK BK669.out) hg (Kd.R_ne HO_5.out BK669.out (by decide))); have n5_ := Aside0.mk ((by rw [hw]; exact below_set (HB.out) GB28.out : Below w.heap.size w w30)); clear HO_4; clear HO_5; clear BK659; clear BK660; clear BK669; clear HB; have HO_4 := n0_; have HO_5 := n1_; have BK659 := n2_; have BK660 := n3_; have BK669 := n4_; have HB := n5_; clear n0_ n1_ n2_ n3_ n4_ n5_; clear hg hw hp_))
         go_roundg k1
         case measure => have := HK1.out; omega
         case rel => exact ⟨(y670), (wrap64 (x28_1 + 1)), qS, H', ⟨by have := HK1.out; omega⟩, ⟨qR HO_4.out⟩, ⟨qR HO_5.out⟩, ⟨by exact qK BK659.out⟩, ⟨by exact qK BK660.out⟩, ⟨by exact qK BK669.out⟩, ⟨qB⟩⟩
        ·rw [if_neg c27] at H
         exact absurd H (by simp)
       ·rw [if_neg c26] at H
        exact absurd H (by simp)
      ·rw [if_neg c25] at H
       have c25b0 : decide (x28_1 < a0_0) = false := decide_eq_false c25
       clear c25
       have H' := Aside0.mk H
       clear H
       have hnb31 := NB659_660.out
       have hnc31 := NB660_659.out
       have hnb32 := NB659_669.out
       have hnc32 := NB669_659.out
       have hcz33_0 : wr.cell? ⟨gb659, 0, none⟩ = some (.int .i64 a0_0) := (blk_cell BK659.out 0).trans rfl
       have hcz33_1 : wr.cell? ⟨gb659, 1, none⟩ = some (.slice A0_1 l0_1.length c0_1) := (blk_cell BK659.out 1).trans rfl
       have hcz33_2 : wr.cell? ⟨gb659, 2, none⟩ = some (.slice A0_2 l0_2.length c0_2) := (blk_cell BK659.out 2).trans rfl
       have hfz33_0 := blk_frozen BK659.out 0
       have hfz33_1 := blk_frozen BK659.out 1
       have hfz33_2 := blk_frozen BK659.out 2
       go_wp2
       go_loopg [39] k1 (fun kq v39 w' => ∃ (x5_2 : List Int) (x39_2 : Int) (x670001_2 : List (S59)) (u670001 : Value), v39 = .int .i64 x39_2 ∧ Aside0 (impl_PruneCircuit.l1 kq t662 x5_2 l0_1 (l0_1.length : Int) x39_2 a0_0 l0_1 l0_2 a0_0 x670001_2 = some (r1, r2, r3, r4)) ∧ Aside0 (kq ≤ k1) ∧ Aside0 (Kd.R Kd.bool 4 w' w.heap.size (fun _ => True) v663 t662) ∧ Aside0 (Kd.R (Kd.int .i64) 3 w' w.heap.size (fun _ => True) v667 x5_2) ∧ Aside0 (Kd.R k59 59 w' w.heap.size (fun _ => True) u670001 x670001_2) ∧ Aside0 (w'.heap[gb659]? = some (.cells #[.int .i64 a0_0, (.slice A0_1 l0_1.length c0_1), (.slice A0_2 l0_2.length c0_2)] 30 (0, 0))) ∧ Aside0 (w'.heap[gb660]? = some (.cells #[.int .i64 0, (.slice none 0 0), (.slice none 0 0)] 30 (0, 0))) ∧ Aside0 (w'.heap[gb669]? = some (.cells #[.int .i64 a0_0, u670001, (.slice none 0 0)] 30 (0, 0))) ∧ Aside0 (Below w.heap.size w w'))
       case atStart => exact ⟨(x5_1), (0), (([] : List (S59))), (.slice none 0 0), qS, H', ⟨Nat.le_refl _⟩, ⟨qR HO_4.out⟩, ⟨qR HO_5.out⟩, ⟨by first | exact Kd.R_nil _ _ _ _ _ | exact Kd.N_nil _ _ _ _ _ | exact Kd.V_nil _ _ _ _ _ | exact Kd.Q_nil _ _ _ _ _ | exact Kd.S_nil _ _ _ _ _⟩, ⟨by exact qK BK659.out⟩, ⟨by exact qK BK660.out⟩, ⟨by exact qK BK669.out⟩, ⟨qB⟩⟩
       case round =>
        clear H'
        try clear c2
        try clear p2
        try clear q2
        try clear hx2
        try clear hf2
        try clear c3
        try clear c4
        try clear c5
        try clear p6
        try clear c23
        try clear c25
        try clear c25b0
        try clear c26
        try clear c26b0
        try clear c27
        try clear c27b0
        try clear p28
        try clear q28
        try clear hx28
        try clear hf28
        try clear c31
        try clear c32
        try clear hcz24_0
        try clear hcz24_1
        try clear hcz24_2
        try clear hcz33_0
        try clear hcz33_1
        try clear hcz33_2
        try clear hfz24_0
        try clear hfz24_1
        try clear hfz24_2
        try clear hfz33_0
        try clear hfz33_1
        try clear hfz33_2
        try clear hx28_0
        try clear p2
        try clear p28
        try clear q28
        obtain ⟨x5_2, x39_2, x670001_2, u670001, rfl, HA, HK2, HO_4, HO_5, HO_670001, BK659, BK660, BK669, HB⟩ := hrel
        cases gk with
        | zero => exact absurd HA.out (by simp [impl_PruneCircuit.l1])
        | succ k2 =>
         have H := HA.out
         clear HA
         simp only [impl_PruneCircuit.l1] at H
         by_cases c34 : x39_2 < (l0_1.length : Int)
         ·rw [if_pos c34] at H
          have c34b0 : decide (x39_2 < (l0_1.length : Int)) = true := decide_eq_true c34
          clear c34
          by_cases c35 : 0 ≤ x39_2
          ·rw [if_pos c35] at H
           have c35b0 : decide (0 ≤ x39_2) = true := decide_eq_true c35
           clear c35
           by_cases c36 : x39_2 < (l0_1.length : Int)
           ·rw [if_pos c36] at H
            have c36b0 : decide (x39_2 < (l0_1.length : Int)) = true := decide_eq_true c36
            clear c36
            obtain ⟨ji37, hji37⟩ : ∃ j_ : Int, (wrap64 (a0_0 + x39_2)) = j_ := ⟨_, rfl⟩
            replace H : (if 0 ≤ (ji37) then (if (ji37) < (t662.length : Int) then (if (rdOf false t662 (ji37) = true) then (if ((rd_T59 l0_1 x39_2).f0) = 1 then (if ((rd_T59 l0_1 x39_2).f0) > 2 then (if 0 ≤ ((rd_T59 l0_1 x39_2).f2) then (if ((rd_T59 l0_1 x39_2).f2) < (x5_2.length : Int) then ((impl_Circuit_wires.f a0_0 x670001_2 ([] : List Int)).bind fun t675 => (if (ji37) < (x5_2.length : Int) then (if x670001_2.length < 5864062014805 then (impl_PruneCircuit.l1 k2 t662 (x5_2.set ((ji37) : Int).toNat t675) l0_1 (l0_1.length : Int) (wrap64 (x39_2 + 1)) a0_0 l0_1 l0_2 a0_0 (x670001_2 ++ [(⟨(rd_T59 l0_1 x39_2).f0, (rd_T59 l0_1 x39_2).f1, rd x5_2 ((rd_T59 l0_1 x39_2).f2)⟩ : S59)])) else (none)) else (none))) else (none)) else (none)) else ((impl_Circuit_wires.f a0_0 x670001_2 ([] : List Int)).bind fun t680 => (if (ji37) < (x5_2.length : Int) then (if x670001_2.length < 5864062014805 then (impl_PruneCircuit.l1 k2 t662 (x5_2.set ((ji37) : Int).toNat t680) l0_1 (l0_1.length : Int) (wrap64 (x39_2 + 1)) a0_0 l0_1 l0_2 a0_0 (x670001_2 ++ [(⟨(rd_T59 l0_1 x39_2).f0, (rd_T59 l0_1 x39_2).f1, (rd_T59 l0_1 x39_2).f2⟩ : S59)])) else (none)) else (none)))) else (if 0 ≤ ((rd_T59 l0_1 x39_2).f1) then (if ((rd_T59 l0_1 x39_2).f1) < (x5_2.length : Int) then (if ((rd_T59 l0_1 x39_2).f0) > 2 then (if 0 ≤ ((rd_T59 l0_1 x39_2).f2) then (if ((rd_T59 l0_1 x39_2).f2) < (x5_2.length : Int) then ((impl_Circuit_wires.f a0_0 x670001_2 ([] : List Int)).bind fun t687 => (if (ji37) < (x5_2.length : Int) then (if x670001_2.length < 5864062014805 then (impl_PruneCircuit.l1 k2 t662 (x5_2.set ((ji37) : Int).toNat t687) l0_1 (l0_1.length : Int) (wrap64 (x39_2 + 1)) a0_0 l0_1 l0_2 a0_0 (x670001_2 ++ [(⟨(rd_T59 l0_1 x39_2).f0, rd x5_2 ((rd_T59 l0_1 x39_2).f1), rd x5_2 ((rd_T59 l0_1 x39_2).f2)⟩ : S59)])) else (none)) else (none))) else (none)) else (none)) else ((impl_Circuit_wires.f a0_0 x670001_2 ([] : List Int)).bind fun t692 => (if (ji37) < (x5_2.length : Int) then (if x670001_2.length < 5864062014805 then (impl_PruneCircuit.l1 k2 t662 (x5_2.set ((ji37) : Int).toNat t692) l0_1 (l0_1.length : Int) (wrap64 (x39_2 + 1)) a0_0 l0_1 l0_2 a0_0 (x670001_2 ++ [(⟨(rd_T59 l0_1 x39_2).f0, rd x5_2 ((rd_T59 l0_1 x39_2).f1), (rd_T59 l0_1 x39_2).f2⟩ : S59)])) else (none)) else (none)))) else (none)) else (none))) else (impl_PruneCircuit.l1 k2 t662 x5_2 l0_1 (l0_1.length : Int) (wrap64 (x39_2 + 1)) a0_0 l0_1 l0_2 a0_0 x670001_2)) else (none)) else (none)) = some (r1, r2, r3, r4) := by first | (rw [hji37] at H; exact H) | (simp only [hji37] at H ⊢; exact H)
            have hji37w : (IntKind.i64.wrap (a0_0 + x39_2)) = ji37 := (i64_w _).trans hji37
            by_cases c38 : 0 ≤ (ji37)
            ·rw [if_pos c38] at H
             have c38b0 : decide (0 ≤ (ji37)) = true := decide_eq_true c38
             clear c38
             by_cases c39 : (ji37) < (t662.length : Int)
             ·rw [if_pos c39] at H
              have c39b0 : decide ((ji37) < (t662.length : Int)) = true := decide_eq_true c39
              clear c39
              obtain ⟨bq40, hbq40⟩ : ∃ b_ : Bool, b_ = (rdOf false t662 (ji37)) := ⟨_, rfl⟩
              replace H : (if (bq40 = true) then (if ((rd_T59 l0_1 x39_2).f0) = 1 then (if ((rd_T59 l0_1 x39_2).f0) > 2 then (if 0 ≤ ((rd_T59 l0_1 x39_2).f2) then (if ((rd_T59 l0_1 x39_2).f2) < (x5_2.length : Int) then ((impl_Circuit_wires.f a0_0 x670001_2 ([] : List Int)).bind fun t675 => (if (ji37) < (x5_2.length : Int) then (if x670001_2.length < 5864062014805 then (impl_PruneCircuit.l1 k2 t662 (x5_2.set ((ji37) : Int).toNat t675) l0_1 (l0_1.length : Int) (wrap64 (x39_2 + 1)) a0_0 l0_1 l0_2 a0_0 (x670001_2 ++ [(⟨(rd_T59 l0_1 x39_2).f0, (rd_T59 l0_1 x39_2).f1, rd x5_2 ((rd_T59 l0_1 x39_2).f2)⟩ : S59)])) else (none)) else (none))) else (none)) else (none)) else ((impl_Circuit_wires.f a0_0 x670001_2 ([] : List Int)).bind fun t680 => (if (ji37) < (x5_2.length : Int) then (if x670001_2.length < 5864062014805 then (impl_PruneCircuit.l1 k2 t662 (x5_2.set ((ji37) : Int).toNat t680) l0_1 (l0_1.length : Int) (wrap64 (x39_2 + 1)) a0_0 l0_1 l0_2 a0_0 (x670001_2 ++ [(⟨(rd_T59 l0_1 x39_2).f0, (rd_T59 l0_1 x39_2).f1, (rd_T59 l0_1 x39_2).f2⟩ : S59)])) else (none)) else (none)))) else (if 0 ≤ ((rd_T59 l0_1 x39_2).f1) then (if ((rd_T59 l0_1 x39_2).f1) < (x5_2.length : Int) then (if ((rd_T59 l0_1 x39_2).f0) > 2 then (if 0 ≤ ((rd_T59 l0_1 x39_2).f2) then (if ((rd_T59 l0_1 x39_2).f2) < (x5_2.length : Int) then ((impl_Circuit_wires.f a0_0 x670001_2 ([] : List Int)).bind fun t687 => (if (ji37) < (x5_2.length : Int) then (if x670001_2.length < 5864062014805 then (impl_PruneCircuit.l1 k2 t662 (x5_2.set ((ji37) : Int).toNat t687) l0_1 (l0_1.length : Int) (wrap64 (x39_2 + 1)) a0_0 l0_1 l0_2 a0_0 (x670001_2 ++ [(⟨(rd_T59 l0_1 x39_2).f0, rd x5_2 ((rd_T59 l0_1 x39_2).f1), rd x5_2 ((rd_T59 l0_1 x39_2).f2)⟩ : S59)])) else (none)) else (none))) else (none)) else (none)) else ((impl_Circuit_wires.f a0_0 x670001_2 ([] : List Int)).bind fun t692 => (if (ji37) < (x5_2.length : Int) then (if x670001_2.length < 5864062014805 then (impl_PruneCircuit.l1 k2 t662 (x5_2.set ((ji37) : Int).toNat t692) l0_1 (l0_1.length : Int) (wrap64 (x39_2 + 1)) a0_0 l0_1 l0_2 a0_0 (x670001_2 ++ [(⟨(rd_T59 l0_1 x39_2).f0, rd x5_2 ((rd_T59 l0_1 x39_2).f1), (rd_T59 l0_1 x39_2).f2⟩ : S59)])) else (none)) else (none)))) else (none)) else (none))) else (impl_PruneCircuit.l1 k2 t662 x5_2 l0_1 (l0_1.length : Int) (wrap64 (x39_2 + 1)) a0_0 l0_1 l0_2 a0_0 x670001_2)) = some (r1, r2, r3, r4) := by rw [← hbq40] at H; exact H
              have Nbq40 := Aside0.mk hbq40
              clear hbq40
              by_cases c41 : (bq40 = true)
              ·subst c41
               have H1 : (if ((rd_T59 l0_1 x39_2).f0) = 1 then (if ((rd_T59 l0_1 x39_2).f0) > 2 then (if 0 ≤ ((rd_T59 l0_1 x39_2).f2) then (if ((rd_T59 l0_1 x39_2).f2) < (x5_2.length : Int) then ((impl_Circuit_wires.f a0_0 x670001_2 ([] : List Int)).bind fun t675 => (if (ji37) < (x5_2.length : Int) then (if x670001_2.length < 5864062014805 then (impl_PruneCircuit.l1 k2 t662 (x5_2.set ((ji37) : Int).toNat t675) l0_1 (l0_1.length : Int) (wrap64 (x39_2 + 1)) a0_0 l0_1 l0_2 a0_0 (x670001_2 ++ [(⟨(rd_T59 l0_1 x39_2).f0, (rd_T59 l0_1 x39_2).f1, rd x5_2 ((rd_T59 l0_1 x39_2).f2)⟩ : S59)])) else (none)) else (none))) else (none)) else (none)) else ((impl_Circuit_wires.f a0_0 x670001_2 ([] : List Int)).bind fun t680 => (if (ji37) < (x5_2.length : Int) then (if x670001_2.length < 5864062014805 then (impl_PruneCircuit.l1 k2 t662 (x5_2.set ((ji37) : Int).toNat t680) l0_1 (l0_1.length : Int) (wrap64 (x39_2 + 1)) a0_0 l0_1 l0_2 a0_0 (x670001_2 ++ [(⟨(rd_T59 l0_1 x39_2).f0, (rd_T59 l0_1 x39_2).f1, (rd_T59 l0_1 x39_2).f2⟩ : S59)])) else (none)) else (none)))) else (if 0 ≤ ((rd_T59 l0_1 x39_2).f1) then (if ((rd_T59 l0_1 x39_2).f1) < (x5_2.length : Int) then (if ((rd_T59 l0_1 x39_2).f0) > 2 then (if 0 ≤ ((rd_T59 l0_1 x39_2).f2) then (if ((rd_T59 l0_1 x39_2).f2) < (x5_2.length : Int) then ((impl_Circuit_wires.f a0_0 x670001_2 ([] : List Int)).bind fun t687 => (if (ji37) < (x5_2.length : Int) then (if x670001_2.length < 5864062014805 then (impl_PruneCircuit.l1 k2 t662 (x5_2.set ((ji37) : Int).toNat t687) l0_1 (l0_1.length : Int) (wrap64 (x39_2 + 1)) a0_0 l0_1 l0_2 a0_0 (x670001_2 ++ [(⟨(rd_T59 l0_1 x39_2).f0, rd x5_2 ((rd_T59 l0_1 x39_2).f1), rd x5_2 ((rd_T59 l0_1 x39_2).f2)⟩ : S59)])) else (none)) else (none))) else (none)) else (none)) else ((impl_Circuit_wires.f a0_0 x670001_2 ([] : List Int)).bind fun t692 => (if (ji37) < (x5_2.length : Int) then (if x670001_2.length < 5864062014805 then (impl_PruneCircuit.l1 k2 t662 (x5_2.set ((ji37) : Int).toNat t692) l0_1 (l0_1.length : Int) (wrap64 (x39_2 + 1)) a0_0 l0_1 l0_2 a0_0 (x670001_2 ++ [(⟨(rd_T59 l0_1 x39_2).f0, rd x5_2 ((rd_T59 l0_1 x39_2).f1), (rd_T59 l0_1 x39_2).f2⟩ : S59)])) else (none)) else (none)))) else (none)) else (none))) = some (r1, r2, r3, r4) := by rw [if_pos rfl] at H; exact H
               clear H
               have H := H1
               clear H1
               by_cases c42 : ((rd_T59 l0_1 x39_2).f0) = 1
               ·rw [if_pos c42] at H
                have c42b0 : (((rd_T59 l0_1 x39_2).f0) == 1) = true := beq_iff_eq.mpr c42
                have c42b1 : (((rd_T59 l0_1 x39_2).f0) != 1) = false := bne_eq_false_iff_eq.mpr c42
                clear c42
                by_cases c43 : ((rd_T59 l0_1 x39_2).f0) > 2
                ·rw [if_pos c43] at H
                 have c43b0 : decide (2 < ((rd_T59 l0_1 x39_2).f0)) = true := decide_eq_true c43
                 clear c43
                 by_cases c44 : 0 ≤ ((rd_T59 l0_1 x39_2).f2)
                 ·rw [if_pos c44] at H
                  have c44b0 : decide (0 ≤ ((rd_T59 l0_1 x39_2).f2)) = true := decide_eq_true c44
                  clear c44
                  by_cases c45 : ((rd_T59 l0_1 x39_2).f2) < (x5_2.length : Int)
                  ·rw [if_pos c45] at H
                   have c45b0 : decide (((rd_T59 l0_1 x39_2).f2) < (x5_2.length : Int)) = true := decide_eq_true c45
                   clear c45
                   replace H := Option.bind_eq_some_iff.mp H
                   obtain ⟨t675, A460, H⟩ := H
                   replace H : (if (ji37) < (x5_2.length : Int) then (if x670001_2.length < 5864062014805 then (impl_PruneCircuit.l1 k2 t662 (x5_2.set ((ji37) : Int).toNat t675) l0_1 (l0_1.length : Int) (wrap64 (x39_2 + 1)) a0_0 l0_1 l0_2 a0_0 (x670001_2 ++ [(⟨(rd_T59 l0_1 x39_2).f0, (rd_T59 l0_1 x39_2).f1, rd x5_2 ((rd_T59 l0_1 x39_2).f2)⟩ : S59)])) else (none)) else (none)) = some (r1, r2, r3, r4) := H
                   have A46 := Aside0.mk A460
                   clear A460
                   by_cases c47 : (ji37) < (x5_2.length : Int)
                   ·rw [if_pos c47] at H
                    have c47b0 : decide ((ji37) < (x5_2.length : Int)) = true := decide_eq_true c47
                    clear c47
                    obtain ⟨y676, hy676⟩ : ∃ y_ : List Int, y_ = (x5_2.set ((ji37) : Int).toNat t675) := ⟨_, rfl⟩
                    replace H : (if x670001_2.length < 5864062014805 then (impl_PruneCircuit.l1 k2 t662 y676 l0_1 (l0_1.length : Int) (wrap64 (x39_2 + 1)) a0_0 l0_1 l0_2 a0_0 (x670001_2 ++ [(⟨(rd_T59 l0_1 x39_2).f0, (rd_T59 l0_1 x39_2).f1, rd x5_2 ((rd_T59 l0_1 x39_2).f2)⟩ : S59)])) else (none)) = some (r1, r2, r3, r4) := qY hy676 H
                    have Ny676 := Aside0.mk hy676
                    clear hy676
                    by_cases c49 : x670001_2.length < 5864062014805
                    ·rw [if_pos c49] at H
                     have LMc49 := Aside0.mk c49
                     clear c49
                     obtain ⟨y677, hy677⟩ : ∃ y_ : List (S59), y_ = (x670001_2 ++ [(⟨(rd_T59 l0_1 x39_2).f0, (rd_T59 l0_1 x39_2).f1, rd x5_2 ((rd_T59 l0_1 x39_2).f2)⟩ : S59)]) := ⟨_, rfl⟩
                     replace H : (impl_PruneCircuit.l1 k2 t662 y676 l0_1 (l0_1.length : Int) (wrap64 (x39_2 + 1)) a0_0 l0_1 l0_2 a0_0 y677) = some (r1, r2, r3, r4) := qY hy677 H
                     have Ny677 := Aside0.mk hy677
                     clear hy677
                     have H' := Aside0.mk H
                     clear H
                     have p671 : 0 ≤ (x39_2 : Int) := qD
                     have q671 : x39_2 < (l0_1.length : Int) := qD
                     obtain ⟨ad671, e671, hx671_0, hx671_1, hx671_2⟩ := at_T59 HR0_1.out x39_2 p671 q671
                     cases e671
                     replace hx671_0 := (HB.out.cell (World.block_lt_of_cell? w _ hx671_0)).trans hx671_0
                     replace hx671_1 := (HB.out.cell (World.block_lt_of_cell? w _ hx671_1)).trans hx671_1
                     replace hx671_2 := (HB.out.cell (World.block_lt_of_cell? w _ hx671_2)).trans hx671_2
                     replace p671 := eq_true p671
                     replace q671 := eq_true q671
                     try go_wp2_with (first | ((with_reducible refine gate_dst (N := 9) rfl ?_); refine box_event ?hg (N := 9) ?hd (cs := #[.int .i64 0, .int .i64 0, .int .i64 0]) (t := 59) ?hr ?_; (case hd => rfl); (case hg => rfl); (case hr => first | (go_simp; done) | (go_simp; rfl)); intro gb672 hg w50 hbox hb; have n0_ := Aside0.mk (Kd.R_below (qR HO_4.out) hb); have n1_ := Aside0.mk (Kd.R_below (qR HO_5.out) hb); have n2_ := Aside0.mk (Kd.R_below (Kd.R_elderB (qR HO_670001.out) gb672 (Nat.le_of_eq hg.symm)) hb); have n3_ := Aside0.mk (blk_below (g := gb659) (o := .cells #[.int .i64 a0_0, .slice (some ad671) l0_1.length c0_1, .slice A0_2 l0_2.length c0_2] 30 (0, 0)) (qK BK659.out) hb); have n4_ := Aside0.mk (blk_below (g := gb660) (o := .cells #[.int .i64 0, .slice none 0 0, .slice none 0 0] 30 (0, 0)) (qK BK660.out) hb); have n5_ := Aside0.mk (blk_below (g := gb669) (o := .cells #[.int .i64 a0_0, u670001, .slice none 0 0] 30 (0, 0)) (qK BK669.out) hb); have n6_ := Aside0.mk (below_step (qB) hb); have n7_ := Aside0.mk (hbox); have n8_ := Aside0.mk ((by rw [hg]; exact (below_size (qB)) : w.heap.size ≤ gb672)); have n9_ := Aside0.mk ((by rw [hg]; exact (below_size (qB)) : w.heap.size ≤ gb672)); have n10_ := Aside0.mk ((by rw [hg]; exact Nat.ne_of_lt (blk_lt (g := gb659) (o := .cells #[.int .i64 a0_0, .slice (some ad671) l0_1.length c0_1, .slice A0_2 l0_2.length c0_2] 30 (0, 0)) (qK BK659.out)) : gb659 ≠ gb672)); have n11_ := Aside0.mk ((by rw [hg]; exact Nat.ne_of_gt (blk_lt (g := gb659) (o := .cells #[.int .i64 a0_0, .slice (some ad671) l0_1.length c0_1, .slice A0_2 l0_2.length c0_2] 30 (0, 0)) (qK BK659.out)) : gb672 ≠ gb659)); have n12_ := Aside0.mk ((by rw [hg]; exact Nat.ne_of_lt (blk_lt (g := gb660) (o := .cells #[.int .i64 0, .slice none 0 0, .slice none 0 0] 30 (0, 0)) (qK BK660.out)) : gb660 ≠ gb672)); have n13_ := Aside0.mk ((by rw [hg]; exact Nat.ne_of_gt (blk_lt (g := gb660) (o := .cells #[.int .i64 0, .slice none 0 0, .slice none 0 0] 30 (0, 0)) (qK BK660.out)) : gb672 ≠ gb660)); have n14_ := Aside0.mk ((by rw [hg]; exact Nat.ne_of_lt (blk_lt (g := gb669) (o := .cells #[.int .i64 a0_0, u670001, .slice none 0 0] 30 (0, 0)) (qK BK669.out)) : gb669 ≠ gb672)); have n15_ := Aside0.mk ((by rw [hg]; exact Nat.ne_of_gt (blk_lt (g := gb669) (o := .cells #[.int .i64 a0_0, u670001, .slice none 0 0] 30 (0, 0)) (qK BK669.out)) : gb672 ≠ gb669)); clear HO_4; clear HO_5; clear HO_670001; clear BK659; clear BK660; clear BK669; clear HB; have HO_4 := n0_; have HO_5 := n1_; have HO_670001 := n2_; have BK659 := n3_; have BK660 := n4_; have BK669 := n5_; have HB := n6_; have BK672 := n7_; have GW672 := n8_; have GE672 := n9_; have NB659_672 := n10_; have NB672_659 := n11_; have NB660_672 := n12_; have NB672_660 := n13_; have NB669_672 := n14_; have NB672_669 := n15_; clear n0_ n1_ n2_ n3_ n4_ n5_ n6_ n7_ n8_ n9_ n10_ n11_ n12_ n13_ n14_ n15_; clear hb hbox hg; have hnb51 := NB672_659.out; have hnc51 := NB659_672.out; have hnb52 := NB672_660.out; have hnc52 := NB660_672.out; have hnb53 := NB672_669.out; have hnc53 := NB669_672.out; have hcz54_0 : w50.cell? ⟨gb672, 0, none⟩ = some (.int .i64 0) := (blk_cell BK672.out 0).trans rfl; have hcz54_1 : w50.cell? ⟨gb672, 1, none⟩ = some (.int .i64 0) := (blk_cell BK672.out 1).trans rfl; have hcz54_2 : w50.cell? ⟨gb672, 2, none⟩ = some (.int .i64 0) := (blk_cell BK672.out 2).trans rfl; have hfz54_0 := blk_frozen BK672.out 0; have hfz54_1 := blk_frozen BK672.out 1; have hfz54_2 := blk_frozen BK672.out 2; have hnb55 := NB659_660.out; have hnc55 := NB660_659.out; have hnb56 := NB659_669.out; have hnc56 := NB669_659.out; have hcz57_0 : w50.cell? ⟨gb659, 0, none⟩ = some (.int .i64 a0_0) := (blk_cell BK659.out 0).trans rfl; have hcz57_1 : w50.cell? ⟨gb659, 1, none⟩ = some (.slice (some ad671) l0_1.length c0_1) := (blk_cell BK659.out 1).trans rfl; have hcz57_2 : w50.cell? ⟨gb659, 2, none⟩ = some (.slice A0_2 l0_2.length c0_2) := (blk_cell BK659.out 2).trans rfl; have hfz57_0 := blk_frozen BK659.out 0; have hfz57_1 := blk_frozen BK659.out 1; have hfz57_2 := blk_frozen BK659.out 2; obtain ⟨Ao58, co58, eo58⟩ := Kd.R_slice HO_4.out; subst eo58; have p673 : 0 ≤ ((ji37) : Int) := qD; have q673 : (ji37) < (t662.length : Int) := qD; obtain ⟨ad673, e673, hx673_0⟩ := Kd.at_bool (Kd.R_reads' HO_4.out).2.2 (ji37) p673 q673; (try rw [← Nbq40.out] at hx673_0); cases e673; have hn673_0 : ad673.block ≠ gb672 := Kd.own_blk (Kd.R_ne HO_4.out BK672.out (by decide)); have hn673_1 : ad673.block ≠ gb672 := Kd.own_blk (Kd.R_ne HO_4.out BK672.out (by decide)); have hn673_2 : ad673.block ≠ gb672 := Kd.own_blk (Kd.R_ne HO_4.out BK672.out (by decide)); replace hx673_0 := (cell_far (p := ⟨gb672, 0, none⟩) (qA hn673_0) (.int .i64 ((rd_T59 l0_1 x39_2).f0))).trans hx673_0; replace hx673_0 := (cell_far (p := ⟨gb672, 1, none⟩) (qA hn673_1) (.int .i64 ((rd_T59 l0_1 x39_2).f1))).trans hx673_0; replace hx673_0 := (cell_far (p := ⟨gb672, 2, none⟩) (qA hn673_2) (.int .i64 ((rd_T59 l0_1 x39_2).f2))).trans hx673_0; clear hn673_0; clear hn673_1; clear hn673_2; replace p673 := eq_true p673; replace q673 := eq_true q673; obtain ⟨Ao59, co59, eo59⟩ := Kd.R_slice HO_5.out; subst eo59; have p674 : 0 ≤ (((rd_T59 l0_1 x39_2).f2) : Int) := qD; have q674 : ((rd_T59 l0_1 x39_2).f2) < (x5_2.length : Int) := qD; obtain ⟨ad674, e674, hx674_0⟩ := Kd.at_int (Kd.R_reads' HO_5.out).2.2 ((rd_T59 l0_1 x39_2).f2) p674 q674; cases e674; have hn674_0 : ad674.block ≠ gb672 := Kd.own_blk (Kd.R_ne HO_5.out BK672.out (by decide)); have hn674_1 : ad674.block ≠ gb672 := Kd.own_blk (Kd.R_ne HO_5.out BK672.out (by decide)); have hn674_2 : ad674.block ≠ gb672 := Kd.own_blk (Kd.R_ne HO_5.out BK672.out (by decide)); replace hx674_0 := (cell_far (p := ⟨gb672, 0, none⟩) (qA hn674_0) (.int .i64 ((rd_T59 l0_1 x39_2).f0))).trans hx674_0; replace hx674_0 := (cell_far (p := ⟨gb672, 1, none⟩) (qA hn674_1) (.int .i64 ((rd_T59 l0_1 x39_2).f1))).trans hx674_0; replace hx674_0 := (cell_far (p := ⟨gb672, 2, none⟩) (qA hn674_2) (.int .i64 ((rd_T59 l0_1 x39_2).f2))).trans hx674_0; clear hn674_0; clear hn674_1; clear hn674_2; replace p674 := eq_true p674; replace q674 := eq_true q674))
                     have n0_ : Aside0 (Kd.R Kd.bool 4 ((((w50.setCell ⟨gb672, 0, none⟩ (.int .i64 ((rd_T59 l0_1 x39_2).f0))).setCell ⟨gb672, 1, none⟩ (.int .i64 ((rd_T59 l0_1 x39_2).f1))).setCell ⟨gb672, 2, none⟩ (.int .i64 ((rd_T59 l0_1 x39_2).f2))).setCell ⟨gb672, 2, none⟩ (.int .i64 (rd x5_2 ((rd_T59 l0_1 x39_2).f2)))) w.heap.size (fun _ => True) (.slice (some ad673) t662.length co58) t662) := ⟨by (with_reducible repeat (first | apply Kd.R_alloc | apply Kd.R_drewN | apply Kd.R_drew)); exact Kd.R_mono (Kd.R_far (p := ⟨gb672, 2, none⟩) (Kd.R_far (p := ⟨gb672, 2, none⟩) (Kd.R_far (p := ⟨gb672, 1, none⟩) (Kd.R_far (p := ⟨gb672, 0, none⟩) (Kd.R_types HO_4.out BK672.out (by decide)) (fun _ hk => hk.2) (.int .i64 ((rd_T59 l0_1 x39_2).f0))) (fun _ hk => hk.2) (.int .i64 ((rd_T59 l0_1 x39_2).f1))) (fun _ hk => hk.2) (.int .i64 ((rd_T59 l0_1 x39_2).f2))) (fun _ hk => hk.2) (.int .i64 (rd x5_2 ((rd_T59 l0_1 x39_2).f2)))) (fun _ hk => trivial)⟩
                     have n1_ : Aside0 (Kd.R (Kd.int .i64) 3 ((((w50.setCell ⟨gb672, 0, none⟩ (.int .i64 ((rd_T59 l0_1 x39_2).f0))).setCell ⟨gb672, 1, none⟩ (.int .i64 ((rd_T59 l0_1 x39_2).f1))).setCell ⟨gb672, 2, none⟩ (.int .i64 ((rd_T59 l0_1 x39_2).f2))).setCell ⟨gb672, 2, none⟩ (.int .i64 (rd x5_2 ((rd_T59 l0_1 x39_2).f2)))) w.heap.size (fun _ => True) (.slice (some ad674) x5_2.length co59) x5_2) := ⟨by (with_reducible repeat (first | apply Kd.R_alloc | apply Kd.R_drewN | apply Kd.R_drew)); exact Kd.R_mono (Kd.R_far (p := ⟨gb672, 2, none⟩) (Kd.R_far (p := ⟨gb672, 2, none⟩) (Kd.R_far (p := ⟨gb672, 1, none⟩) (Kd.R_far (p := ⟨gb672, 0, none⟩) (Kd.R_types HO_5.out BK672.out (by decide)) (fun _ hk => hk.2) (.int .i64 ((rd_T59 l0_1 x39_2).f0))) (fun _ hk => hk.2) (.int .i64 ((rd_T59 l0_1 x39_2).f1))) (fun _ hk => hk.2) (.int .i64 ((rd_T59 l0_1 x39_2).f2))) (fun _ hk => hk.2) (.int .i64 (rd x5_2 ((rd_T59 l0_1 x39_2).f2)))) (fun _ hk => trivial)⟩
                     have n2_ : Aside0 (Kd.R k59 59 ((((w50.setCell ⟨gb672, 0, none⟩ (.int .i64 ((rd_T59 l0_1 x39_2).f0))).setCell ⟨gb672, 1, none⟩ (.int .i64 ((rd_T59 l0_1 x39_2).f1))).setCell ⟨gb672, 2, none⟩ (.int .i64 ((rd_T59 l0_1 x39_2).f2))).setCell ⟨gb672, 2, none⟩ (.int .i64 (rd x5_2 ((rd_T59 l0_1 x39_2).f2)))) w.heap.size (fun k_ => k_ ≠ gb672) u670001 x670001_2) := ⟨by (with_reducible repeat (first | apply Kd.R_alloc | apply Kd.R_drewN | apply Kd.R_drew)); exact Kd.R_mono (Kd.R_far (p := ⟨gb672, 2, none⟩) (Kd.R_far (p := ⟨gb672, 2, none⟩) (Kd.R_far (p := ⟨gb672, 1, none⟩) (Kd.R_far (p := ⟨gb672, 0, none⟩) (Kd.R_mono HO_670001.out (fun k_ hk => (⟨hk, hk.2⟩ : _ ∧ k_ ≠ gb672))) (fun _ hk => hk.2) (.int .i64 ((rd_T59 l0_1 x39_2).f0))) (fun _ hk => hk.2) (.int .i64 ((rd_T59 l0_1 x39_2).f1))) (fun _ hk => hk.2) (.int .i64 ((rd_T59 l0_1 x39_2).f2))) (fun _ hk => hk.2) (.int .i64 (rd x5_2 ((rd_T59 l0_1 x39_2).f2)))) (fun _ hk => hk.1.2)⟩
                     have n3_ : Aside0 (((((w50.setCell ⟨gb672, 0, none⟩ (.int .i64 ((rd_T59 l0_1 x39_2).f0))).setCell ⟨gb672, 1, none⟩ (.int .i64 ((rd_T59 l0_1 x39_2).f1))).setCell ⟨gb672, 2, none⟩ (.int .i64 ((rd_T59 l0_1 x39_2).f2))).setCell ⟨gb672, 2, none⟩ (.int .i64 (rd x5_2 ((rd_T59 l0_1 x39_2).f2)))).heap[gb659]? = some (.cells #[.int .i64 a0_0, .slice (some ad671) l0_1.length c0_1, .slice A0_2 l0_2.length c0_2] 30 (0, 0))) := ⟨by (with_reducible repeat (first | refine blk_drewN ?_ _ | refine blk_drew ?_ | refine blk_alloc ?_ _)); refine blk_far ?_ NB659_672.out _; (with_reducible repeat (first | refine blk_drewN ?_ _ | refine blk_drew ?_ | refine blk_alloc ?_ _)); refine blk_far ?_ NB659_672.out _; (with_reducible repeat (first | refine blk_drewN ?_ _ | refine blk_drew ?_ | refine blk_alloc ?_ _)); refine blk_far ?_ NB659_672.out _; (with_reducible repeat (first | refine blk_drewN ?_ _ | refine blk_drew ?_ | refine blk_alloc ?_ _)); refine blk_far ?_ NB659_672.out _; exact qK BK659.out⟩
                     have n4_ : Aside0 (((((w50.setCell ⟨gb672, 0, none⟩ (.int .i64 ((rd_T59 l0_1 x39_2).f0))).setCell ⟨gb672, 1, none⟩ (.int .i64 ((rd_T59 l0_1 x39_2).f1))).setCell ⟨gb672, 2, none⟩ (.int .i64 ((rd_T59 l0_1 x39_2).f2))).setCell ⟨gb672, 2, none⟩ (.int .i64 (rd x5_2 ((rd_T59 l0_1 x39_2).f2)))).heap[gb660]? = some (.cells #[.int .i64 0, .slice none 0 0, .slice none 0 0] 30 (0, 0))) := ⟨by (with_reducible repeat (first | refine blk_drewN ?_ _ | refine blk_drew ?_ | refine blk_alloc ?_ _)); refine blk_far ?_ NB660_672.out _; (with_reducible repeat (first | refine blk_drewN ?_ _ | refine blk_drew ?_ | refine blk_alloc ?_ _)); refine blk_far ?_ NB660_672.out _; (with_reducible repeat (first | refine blk_drewN ?_ _ | refine blk_drew ?_ | refine blk_alloc ?_ _)); refine blk_far ?_ NB660_672.out _; (with_reducible repeat (first | refine blk_drewN ?_ _ | refine blk_drew ?_ | refine blk_alloc ?_ _)); refine blk_far ?_ NB660_672.out _; exact qK BK660.out⟩
                     have n5_ : Aside0 (((((w50.setCell ⟨gb672, 0, none⟩ (.int .i64 ((rd_T59 l0_1 x39_2).f0))).setCell ⟨gb672, 1, none⟩ (.int .i64 ((rd_T59 l0_1 x39_2).f1))).setCell ⟨gb672, 2, none⟩ (.int .i64 ((rd_T59 l0_1 x39_2).f2))).setCell ⟨gb672, 2, none⟩ (.int .i64 (rd x5_2 ((rd_T59 l0_1 x39_2).f2)))).heap[gb669]? = some (.cells #[.int .i64 a0_0, u670001, .slice none 0 0] 30 (0, 0))) := ⟨by (with_reducible repeat (first | refine blk_drewN ?_ _ | refine blk_drew ?_ | refine blk_alloc ?_ _)); refine blk_far ?_ NB669_672.out _; (with_reducible repeat (first | refine blk_drewN ?_ _ | refine blk_drew ?_ | refine blk_alloc ?_ _)); refine blk_far ?_ NB669_672.out _; (with_reducible repeat (first | refine blk_drewN ?_ _ | refine blk_drew ?_ | refine blk_alloc ?_ _)); refine blk_far ?_ NB669_672.out _; (with_reducible repeat (first | refine blk_drewN ?_ _ | refine blk_drew ?_ | refine blk_alloc ?_ _)); refine blk_far ?_ NB669_672.out _; exact qK BK669.out⟩
                     have n6_ : Aside0 (((((w50.setCell ⟨gb672, 0, none⟩ (.int .i64 ((rd_T59 l0_1 x39_2).f0))).setCell ⟨gb672, 1, none⟩ (.int .i64 ((rd_T59 l0_1 x39_2).f1))).setCell ⟨gb672, 2, none⟩ (.int .i64 ((rd_T59 l0_1 x39_2).f2))).setCell ⟨gb672, 2, none⟩ (.int .i64 (rd x5_2 ((rd_T59 l0_1 x39_2).f2)))).heap[gb672]? = some (.cells #[.int .i64 ((rd_T59 l0_1 x39_2).f0), .int .i64 ((rd_T59 l0_1 x39_2).f1), .int .i64 (rd x5_2 ((rd_T59 l0_1 x39_2).f2))] 59 (0, 0))) := ⟨by (with_reducible repeat (first | refine blk_drewN ?_ _ | refine blk_drew ?_ | refine blk_alloc ?_ _)); refine blk_put (cs := #[.int .i64 ((rd_T59 l0_1 x39_2).f0), .int .i64 ((rd_T59 l0_1 x39_2).f1), .int .i64 ((rd_T59 l0_1 x39_2).f2)]) ?_ 2 _ rfl; refine blk_put (cs := #[.int .i64 ((rd_T59 l0_1 x39_2).f0), .int .i64 ((rd_T59 l0_1 x39_2).f1), .int .i64 0]) ?_ 2 _ rfl; refine blk_put (cs := #[.int .i64 ((rd_T59 l0_1 x39_2).f0), .int .i64 0, .int .i64 0]) ?_ 1 _ rfl; refine blk_put (cs := #[.int .i64 0, .int .i64 0, .int .i64 0]) ?_ 0 _ rfl; exact qK BK672.out⟩
                     have n7_ : Aside0 (Below w.heap.size w ((((w50.setCell ⟨gb672, 0, none⟩ (.int .i64 ((rd_T59 l0_1 x39_2).f0))).setCell ⟨gb672, 1, none⟩ (.int .i64 ((rd_T59 l0_1 x39_2).f1))).setCell ⟨gb672, 2, none⟩ (.int .i64 ((rd_T59 l0_1 x39_2).f2))).setCell ⟨gb672, 2, none⟩ (.int .i64 (rd x5_2 ((rd_T59 l0_1 x39_2).f2))))) := ⟨qB⟩
                     (try clear HO_4)
                     (try clear HO_5)
                     (try clear HO_670001)
                     (try clear BK659)
                     (try clear BK660)
                     (try clear BK669)
                     (try clear BK672)
                     (try clear HB)
                     generalize ((((w50.setCell ⟨gb672, 0, none⟩ (.int .i64 ((rd_T59 l0_1 x39_2).f0))).setCell ⟨gb672, 1, none⟩ (.int .i64 ((rd_T59 l0_1 x39_2).f1))).setCell ⟨gb672, 2, none⟩ (.int .i64 ((rd_T59 l0_1 x39_2).f2))).setCell ⟨gb672, 2, none⟩ (.int .i64 (rd x5_2 ((rd_T59 l0_1 x39_2).f2)))) = w60 at n0_ n1_ n2_ n3_ n4_ n5_ n6_ n7_ ⊢
                     have HO_4 := n0_
                     have HO_5 := n1_
                     have HO_670001 := n2_
                     have BK659 := n3_
                     have BK660 := n4_
                     have BK669 := n5_
                     have BK672 := n6_
                     have HB := n7_
                     clear n0_ n1_ n2_ n3_ n4_ n5_ n6_ n7_
                     have n0_ := Aside0.mk (Kd.R_drew HO_4.out)
                     have n1_ := Aside0.mk (Kd.R_drew HO_5.out)
                     have n2_ := Aside0.mk (Kd.R_drew HO_670001.out)
                     have n3_ := Aside0.mk (blk_drew BK659.out)
                     have n4_ := Aside0.mk (blk_drew BK660.out)
                     have n5_ := Aside0.mk (blk_drew BK669.out)
                     have n6_ := Aside0.mk (blk_drew BK672.out)
                     have n7_ := Aside0.mk (below_drew1 HB.out)
                     clear HO_4
                     clear HO_5
                     clear HO_670001
                     clear BK659
                     clear BK660
                     clear BK669
                     clear BK672
                     clear HB
                     have HO_4 := n0_
                     have HO_5 := n1_
                     have HO_670001 := n2_
                     have BK659 := n3_
                     have BK660 := n4_
                     have BK669 := n5_
                     have BK672 := n6_
                     have HB := n7_
                     clear n0_ n1_ n2_ n3_ n4_ n5_ n6_ n7_
                     obtain ⟨Ao62, co62, eo62⟩ := Kd.R_slice HO_670001.out
                     (first | subst eo62 | (injection eo62 with f1_ f2_ f3_; have f4_ := f1_.symm; have f5_ := f3_.symm; clear f1_ f2_ f3_; subst f4_; subst f5_))
                     refine start_ (n := 9) (S := fun w' => w'.cell? ⟨gb659, 0, none⟩ = some (.int .i64 a0_0) ∧ w'.cell? ⟨gb659, 1, none⟩ = some (.slice (some ad671) l0_1.length c0_1) ∧ w'.cell? ⟨gb659, 2, none⟩ = some (.slice A0_2 l0_2.length c0_2) ∧ w'.cell? ⟨gb669, 0, none⟩ = some (.int .i64 a0_0) ∧ w'.cell? ⟨gb669, 1, none⟩ = some (.slice Ao62 x670001_2.length co62) ∧ w'.cell? ⟨gb669, 2, none⟩ = some (.slice none 0 0)) (ds := [8]) bX33_4 (by kernel_rfl) rfl rfl ⟨(blk_cell BK659.out 0).trans rfl, (blk_cell BK659.out 1).trans rfl, (blk_cell BK659.out 2).trans rfl, (blk_cell BK669.out 0).trans rfl, (blk_cell BK669.out 1).trans rfl, (blk_cell BK669.out 2).trans rfl⟩ (fun hHeld => ?_); refine with_tabW impl_PruneCircuit.tab17 impl_PruneCircuit.bits17 (fun HT_ HW_ => ?_)
                     generalize w60.drew = w61 at HO_4 HO_5 HO_670001 BK659 BK660 BK669 BK672 HB hHeld ⊢
                     refine pure_ (i := 0) (N := some 70) (v := ?_) (a' := ?_) bX33_5 rfl rfl (any_of HT_.out (by kernel_rfl)) (fun _ _ _ h => h) (Or.inl ⟨by rfl, ?_⟩) ?_ ?_
                     rotate_left
                     ·intro w'
                      go_simp
                      with_reducible rfl
                     rotate_left
                     ·simp only [Act.put, List.setIfInBounds_toArray, List.set_cons_zero, List.set_cons_succ, i64_w, i32_w]
                      rfl
                     refine pure_ (i := 1) (N := some 71) (v := ?_) (a' := ?_) bX33_6 rfl rfl (any_of HT_.out (by kernel_rfl)) (fun _ _ _ h => h) (Or.inl ⟨by rfl, ?_⟩) ?_ ?_
                     rotate_left
                     ·intro w'
                      go_simp
                      with_reducible rfl
                     rotate_left
                     ·simp only [Act.put, List.setIfInBounds_toArray, List.set_cons_zero, List.set_cons_succ, i64_w, i32_w]
                      rfl
                     refine pure_ (i := 3) (N := some 73) (v := ?_) (a' := ?_) bX33_7 rfl rfl (any_of HT_.out (by kernel_rfl)) (fun _ _ _ h => h) (Or.inl ⟨by rfl, ?_⟩) ?_ ?_
                     rotate_left
                     ·intro w'
                      go_simp
                      with_reducible rfl
                     rotate_left
                     ·simp only [Act.put, List.setIfInBounds_toArray, List.set_cons_zero, List.set_cons_succ, i64_w, i32_w]
                      rfl
                     refine take_ (i := 2) (N := some 72) (v := ?_) (a' := ?_) bX33_8 rfl rfl (take_ofW HT_.out HW_.out (by kernel_rfl)) (fun _ _ _ h => h) (Or.inl ⟨by rfl, ?_⟩) hHeld ?_ ?_
                     rotate_left
                     ·rintro w' ⟨s0, s1, s2, s3, s4, s5⟩
                      go_simp
                      with_reducible rfl
                     rotate_left
                     ·simp only [Act.put, List.setIfInBounds_toArray, List.set_cons_zero, List.set_cons_succ, i64_w, i32_w]
                      rfl
                     refine pure_ (i := 4) (N := some 74) (v := ?_) (a' := ?_) bX33_9 rfl rfl (any_of HT_.out (by kernel_rfl)) (fun _ _ _ h => h) (Or.inl ⟨by rfl, ?_⟩) ?_ ?_
                     rotate_left
                     ·intro w'
                      go_simp
                      with_reducible rfl
                     rotate_left
                     ·simp only [Act.put, List.setIfInBounds_toArray, List.set_cons_zero, List.set_cons_succ, i64_w, i32_w]
                      rfl
                     refine take_ (i := 5) (N := some 75) (v := ?_) (a' := ?_) bX33_10 rfl rfl (take_ofW HT_.out HW_.out (by kernel_rfl)) (fun _ _ _ h => h) (Or.inl ⟨by rfl, ?_⟩) hHeld ?_ ?_
                     rotate_left
                     ·rintro w' ⟨s0, s1, s2, s3, s4, s5⟩
                      go_simp
                      with_reducible rfl
                     rotate_left
                     ·simp only [Act.put, List.setIfInBounds_toArray, List.set_cons_zero, List.set_cons_succ, i64_w, i32_w]
                      rfl
                     refine one_ (i := 6) (N := some 76) bX33_11 rfl rfl (one_of HT_.out (by kernel_rfl)) (by decide) (fun K hK => ?_)
                     refine goes_ Try.func49 (by kernel_rfl) rfl #[.agg #[.int .i64 a0_0, .slice Ao62 x670001_2.length co62, .slice none 0 0]] (by rfl) rfl rfl qG ?_
                     refine (impl_Circuit_wires.calls a0_0 _ _ x670001_2 _ _ ([] : List Int) t675 _ ?side1 ?side2 ?side3 ?side4 A46.out).mono ?_
                     (case side1 => repeat (first | exact (Kd.R_reads' HO_670001.out).2.2 | (with_reducible refine Kd.C_alloc ?_ _) | (with_reducible refine Kd.C_drewN ?_ _) | (with_reducible refine Kd.C_drew ?_)))
                     (case side2 => exact (Kd.R_reads' HO_670001.out).2.1)
                     (case side3 => exact Kd.C_nil _ _)
                     (case side4 => exact Nat.le_refl _)
                     rintro e w63 ⟨rfl, hb⟩
                     refine ⟨_, rfl, ?_⟩
                     have n0_ := Aside0.mk (Kd.R_below (qR HO_4.out) hb)
                     have n1_ := Aside0.mk (Kd.R_below (qR HO_5.out) hb)
                     have n2_ := Aside0.mk (Kd.R_below (qR HO_670001.out) hb)
                     have n3_ := Aside0.mk (blk_below (g := gb659) (o := .cells #[.int .i64 a0_0, .slice (some ad671) l0_1.length c0_1, .slice A0_2 l0_2.length c0_2] 30 (0, 0)) (qK BK659.out) hb)
                     have n4_ := Aside0.mk (blk_below (g := gb660) (o := .cells #[.int .i64 0, .slice none 0 0, .slice none 0 0] 30 (0, 0)) (qK BK660.out) hb)
                     have n5_ := Aside0.mk (blk_below (g := gb669) (o := .cells #[.int .i64 a0_0, .slice Ao62 x670001_2.length co62, .slice none 0 0] 30 (0, 0)) (qK BK669.out) hb)
                     have n6_ := Aside0.mk (blk_below (g := gb672) (o := .cells #[.int .i64 ((rd_T59 l0_1 x39_2).f0), .int .i64 ((rd_T59 l0_1 x39_2).f1), .int .i64 (rd x5_2 ((rd_T59 l0_1 x39_2).f2))] 59 (0, 0)) (qK BK672.out) hb)
                     have n7_ := Aside0.mk (below_step (qB) hb)
                     clear HO_4
                     clear HO_5
                     clear HO_670001
                     clear BK659
                     clear BK660
                     clear BK669
                     clear BK672
                     clear HB
                     have HO_4 := n0_
                     have HO_5 := n1_
                     have HO_670001 := n2_
                     have BK659 := n3_
                     have BK660 := n4_
                     have BK669 := n5_
                     have BK672 := n6_
                     have HB := n7_
                     clear n0_ n1_ n2_ n3_ n4_ n5_ n6_ n7_
                     (try clear hb)
                     (try clear hb2)
                     (try clear hk)
                     (try clear hi)
                     have p48 : 0 ≤ ((ji37) : Int) := qD
                     have q48 : ((ji37) : Int) < ((x5_2.length : Int) : Int) := qD
                     obtain ⟨go48, co48, eo48, gb48, gl48, cl48, HG48⟩ := Kd.R_form HO_5.out (by omega)
                     (first | cases eo48 | (injection eo48 with ea_ en_ ec_; (first | subst ea_ | (injection ea_ with ea_; subst ea_)); subst ec_; clear en_))
                     have GB48 := Aside0.mk gb48
                     have GG48 := Aside0.mk HG48
                     clear gb48 gl48 HG48
                     (first | simp only [add_plain] at hx674_0 | skip)
                     obtain ⟨hx48_0, hf48_0⟩ := Kd.R_celln 0 HO_5.out ((ji37) : Int) p48 q48
                     replace p48 := eq_true p48
                     replace q48 := eq_true q48
                     have HP64 := Kd.R_putn HO_5.out ((ji37) : Int) t675
                     rw [← Ny676.out] at HP64
                     have HQ64 := Aside0.mk HP64
                     clear HP64
                     refine hK.out _ _ ⟨(blk_cell BK659.out 0).trans rfl, (blk_cell BK659.out 1).trans rfl, (blk_cell BK659.out 2).trans rfl, (blk_cell BK669.out 0).trans rfl, (blk_cell BK669.out 1).trans rfl, (blk_cell BK669.out 2).trans rfl⟩ (fun hHeld => ?_)
                     clear hK K
                     refine norm_ (a' := ?_) ?_ ?_
                     rotate_left
                     ·show Act.put _ (some 76) _ = _
                      simp only [Act.put, List.setIfInBounds_toArray, List.set_cons_zero, List.set_cons_succ, i64_w, i32_w]
                      rfl
                     refine pure_ (i := 7) (N := some 77) (v := ?_) (a' := ?_) bX33_12 rfl rfl (any_of HT_.out (by kernel_rfl)) (fun _ _ _ h => h) (Or.inl ⟨by rfl, ?_⟩) ?_ ?_
                     rotate_left
                     ·intro w'
                      go_simp
                      with_reducible rfl
                     rotate_left
                     ·simp only [Act.put, List.setIfInBounds_toArray, List.set_cons_zero, List.set_cons_succ, i64_w, i32_w]
                      rfl
                     refine last_ (i := 8) (N := none) bX33_13 rfl rfl (one_of HT_.out (by kernel_rfl)) (by decide) (fun K hK => ?_)
                     refine skip_ (w1 := ?_) (by rfl) rfl ?_ ?_
                     rotate_left
                     ·go_simp
                      rfl
                     refine hK.out _ _ ?_
                     clear hK K
                     refine done_ (done_of HT_.out (by kernel_rfl)) ?_
                     have n0_ : Aside0 (Kd.R Kd.bool 4 (w63.setCell ⟨go48, ((ji37) : Int).toNat, none⟩ (.int .i64 t675)) w.heap.size (fun _ => True) (.slice (some ad673) t662.length co58) t662) := ⟨by (with_reducible repeat (first | apply Kd.R_alloc | apply Kd.R_drewN | apply Kd.R_drew)); exact Kd.R_mono (Kd.R_far (p := ⟨go48, ((ji37) : Int).toNat, none⟩) (Kd.R_types HO_4.out GG48.out (by decide)) (fun _ hk => hk.2) (.int .i64 t675)) (fun _ hk => trivial)⟩
                     have n1_ : Aside0 (Kd.R (Kd.int .i64) 3 (w63.setCell ⟨go48, ((ji37) : Int).toNat, none⟩ (.int .i64 t675)) w.heap.size (fun _ => True) (.slice (some ⟨go48, 0, none⟩) x5_2.length co59) y676) := ⟨qR HQ64.out⟩
                     have n2_ : Aside0 (Kd.R k59 59 (w63.setCell ⟨go48, ((ji37) : Int).toNat, none⟩ (.int .i64 t675)) w.heap.size (fun k_ => k_ ≠ gb672) (.slice Ao62 x670001_2.length co62) x670001_2) := ⟨by (with_reducible repeat (first | apply Kd.R_alloc | apply Kd.R_drewN | apply Kd.R_drew)); exact Kd.R_mono (Kd.R_far (p := ⟨go48, ((ji37) : Int).toNat, none⟩) (Kd.R_types HO_670001.out GG48.out (by decide)) (fun _ hk => hk.2) (.int .i64 t675)) (fun _ hk => hk.1)⟩
                     have n3_ : Aside0 ((w63.setCell ⟨go48, ((ji37) : Int).toNat, none⟩ (.int .i64 t675)).heap[gb659]? = some (.cells #[.int .i64 a0_0, .slice (some ad671) l0_1.length c0_1, .slice A0_2 l0_2.length c0_2] 30 (0, 0))) := ⟨by (with_reducible repeat (first | refine blk_drewN ?_ _ | refine blk_drew ?_ | refine blk_alloc ?_ _)); refine blk_far ?_ (by have h_ := Kd.R_ne HO_5.out BK659.out (by decide); intro e_; exact h_ (by rw [e_]; rfl)) _; exact qK BK659.out⟩
                     have n4_ : Aside0 ((w63.setCell ⟨go48, ((ji37) : Int).toNat, none⟩ (.int .i64 t675)).heap[gb660]? = some (.cells #[.int .i64 0, .slice none 0 0, .slice none 0 0] 30 (0, 0))) := ⟨by (with_reducible repeat (first | refine blk_drewN ?_ _ | refine blk_drew ?_ | refine blk_alloc ?_ _)); refine blk_far ?_ (by have h_ := Kd.R_ne HO_5.out BK660.out (by decide); intro e_; exact h_ (by rw [e_]; rfl)) _; exact qK BK660.out⟩
                     have n5_ : Aside0 ((w63.setCell ⟨go48, ((ji37) : Int).toNat, none⟩ (.int .i64 t675)).heap[gb669]? = some (.cells #[.int .i64 a0_0, .slice Ao62 x670001_2.length co62, .slice none 0 0] 30 (0, 0))) := ⟨by (with_reducible repeat (first | refine blk_drewN ?_ _ | refine blk_drew ?_ | refine blk_alloc ?_ _)); refine blk_far ?_ (by have h_ := Kd.R_ne HO_5.out BK669.out (by decide); intro e_; exact h_ (by rw [e_]; rfl)) _; exact qK BK669.out⟩
                     have n6_ : Aside0 ((w63.setCell ⟨go48, ((ji37) : Int).toNat, none⟩ (.int .i64 t675)).heap[gb672]? = some (.cells #[.int .i64 ((rd_T59 l0_1 x39_2).f0), .int .i64 ((rd_T59 l0_1 x39_2).f1), .int .i64 (rd x5_2 ((rd_T59 l0_1 x39_2).f2))] 59 (0, 0))) := ⟨by (with_reducible repeat (first | refine blk_drewN ?_ _ | refine blk_drew ?_ | refine blk_alloc ?_ _)); refine blk_far ?_ (by have h_ := Kd.R_ne HO_5.out BK672.out (by decide); intro e_; exact h_ (by rw [e_]; rfl)) _; exact qK BK672.out⟩
                     have n7_ : Aside0 (Below w.heap.size w (w63.setCell ⟨go48, ((ji37) : Int).toNat, none⟩ (.int .i64 t675))) := ⟨by repeat (first | (with_reducible first | exact HB.out | apply below_alloc | apply pw_below_drewN | apply below_drew1 | refine below_set ?_ GB48.out | refine below_set ?_ GE659.out | refine below_set ?_ GE660.out | refine below_set ?_ GE669.out | refine below_set ?_ GE672.out) | exact HB.out)⟩
                     (try clear HO_4)
                     (try clear HO_5)
                     (try clear HO_670001)
                     (try clear BK659)
                     (try clear BK660)
                     (try clear BK669)
                     (try clear BK672)
                     (try clear HB)
                     generalize (w63.setCell ⟨go48, ((ji37) : Int).toNat, none⟩ (.int .i64 t675)) = w65 at n0_ n1_ n2_ n3_ n4_ n5_ n6_ n7_ ⊢
                     have HO_4 := n0_
                     have HO_5 := n1_
                     have HO_670001 := n2_
                     have BK659 := n3_
                     have BK660 := n4_
                     have BK669 := n5_
                     have BK672 := n6_
                     have HB := n7_
                     clear n0_ n1_ n2_ n3_ n4_ n5_ n6_ n7_
                     have hnb66 := NB669_660.out
                     have hnc66 := NB660_669.out
                     have hcz67_0 : w65.cell? ⟨gb669, 0, none⟩ = some (.int .i64 a0_0) := (blk_cell BK669.out 0).trans rfl
                     have hcz67_1 : w65.cell? ⟨gb669, 1, none⟩ = some (.slice Ao62 x670001_2.length co62) := (blk_cell BK669.out 1).trans rfl
                     have hcz67_2 : w65.cell? ⟨gb669, 2, none⟩ = some (.slice none 0 0) := (blk_cell BK669.out 2).trans rfl
                     have hfz67_0 := blk_frozen BK669.out 0
                     have hfz67_1 := blk_frozen BK669.out 1
                     have hfz67_2 := blk_frozen BK669.out 2
                     have hcz68_0 : w65.cell? ⟨gb672, 0, none⟩ = some (.int .i64 ((rd_T59 l0_1 x39_2).f0)) := (blk_cell BK672.out 0).trans rfl
                     have hcz68_1 : w65.cell? ⟨gb672, 1, none⟩ = some (.int .i64 ((rd_T59 l0_1 x39_2).f1)) := (blk_cell BK672.out 1).trans rfl
                     have hcz68_2 : w65.cell? ⟨gb672, 2, none⟩ = some (.int .i64 (rd x5_2 ((rd_T59 l0_1 x39_2).f2))) := (blk_cell BK672.out 2).trans rfl
                     have hfz68_0 := blk_frozen BK672.out 0
                     have hfz68_1 := blk_frozen BK672.out 1
                     have hfz68_2 := blk_frozen BK672.out 2
                     try go_wp2_with (first | ((with_reducible refine gate_builtin (b := .append) (xs := #[.tmp 79, .tmp 81]) rfl ?_); at_builtin; refine Kd.R_append k59 (w0 := w) w.heap.size rfl (.tmp 79) (.tmp 81) 28 59 (.agg #[(.int .i64 0), (.int .i64 0), (.int .i64 0)]) 24 rfl Try.underlying28 info59 rfl (by decide) (by omega) (.slice Ao62 x670001_2.length co62) x670001_2 (⟨(rd_T59 l0_1 x39_2).f0, (rd_T59 l0_1 x39_2).f1, rd x5_2 ((rd_T59 l0_1 x39_2).f2)⟩ : S59) [.int .i64 ((rd_T59 l0_1 x39_2).f0), .int .i64 ((rd_T59 l0_1 x39_2).f1), .int .i64 (rd x5_2 ((rd_T59 l0_1 x39_2).f2))] (fun k_ => k_ ≠ gb672) (fun _ => False) rfl rfl ?aP (fun _ hk => hk.elim) ?aF ?aO ?aB ?aS ?aL ?_; (case aP => exact k59_mkM _ _ _ (⟨(rd_T59 l0_1 x39_2).f0, (rd_T59 l0_1 x39_2).f1, rd x5_2 ((rd_T59 l0_1 x39_2).f2)⟩ : S59)); (case aB => exact (qB)); (case aF => exact (fun k_ hk => Kd.freshB (g := gb672) (o := .cells #[.int .i64 ((rd_T59 l0_1 x39_2).f0), .int .i64 ((rd_T59 l0_1 x39_2).f1), .int .i64 (rd x5_2 ((rd_T59 l0_1 x39_2).f2))] 59 (0, 0)) (qK BK672.out) k_ hk)); (case aO => exact (qR HO_670001.out)); (case aS => exact (below_size (qB))); (case aL => have := LMc49.out; omega); intro v678 w69 ho hb hg hat; rw [← Ny677.out] at ho; have n0_ := Aside0.mk (Kd.R_over' (qR HO_4.out) (Kd.R_typed (qR HO_670001.out)) (by decide) hg); have n1_ := Aside0.mk (Kd.R_over' (qR HO_5.out) (Kd.R_typed (qR HO_670001.out)) (by decide) hg); have n2_ := Aside0.mk (blk_grown (g := gb659) (o := .cells #[.int .i64 a0_0, .slice (some ad671) l0_1.length c0_1, .slice A0_2 l0_2.length c0_2] 30 (0, 0)) (qK BK659.out) hg (Kd.R_ne HO_670001.out BK659.out (by decide))); have n3_ := Aside0.mk (blk_grown (g := gb660) (o := .cells #[.int .i64 0, .slice none 0 0, .slice none 0 0] 30 (0, 0)) (qK BK660.out) hg (Kd.R_ne HO_670001.out BK660.out (by decide))); have n4_ := Aside0.mk (blk_grown (g := gb669) (o := .cells #[.int .i64 a0_0, .slice Ao62 x670001_2.length co62, .slice none 0 0] 30 (0, 0)) (qK BK669.out) hg (Kd.R_ne HO_670001.out BK669.out (by decide))); have n5_ := Aside0.mk (blk_grown (g := gb672) (o := .cells #[.int .i64 ((rd_T59 l0_1 x39_2).f0), .int .i64 ((rd_T59 l0_1 x39_2).f1), .int .i64 (rd x5_2 ((rd_T59 l0_1 x39_2).f2))] 59 (0, 0)) (qK BK672.out) hg (Kd.R_away HO_670001.out (fun _ hk => hk))); have n6_ := Aside0.mk (hb); have n7_ := Aside0.mk (ho); clear HO_4; clear HO_5; clear BK659; clear BK660; clear BK669; clear BK672; clear HB; clear HO_670001; have HO_4 := n0_; have HO_5 := n1_; have BK659 := n2_; have BK660 := n3_; have BK669 := n4_; have BK672 := n5_; have HB := n6_; have HO679 := n7_; clear n0_ n1_ n2_ n3_ n4_ n5_ n6_ n7_; clear ho hb hg hat; obtain ⟨Ao70, co70, eo70⟩ := Kd.R_slice HO679.out; subst eo70; have hcz71_0 : w69.cell? ⟨gb669, 0, none⟩ = some (.int .i64 a0_0) := (blk_cell BK669.out 0).trans rfl; have hcz71_1 : w69.cell? ⟨gb669, 1, none⟩ = some (.slice Ao62 x670001_2.length co62) := (blk_cell BK669.out 1).trans rfl; have hcz71_2 : w69.cell? ⟨gb669, 2, none⟩ = some (.slice none 0 0) := (blk_cell BK669.out 2).trans rfl; have hfz71_0 := blk_frozen BK669.out 0; have hfz71_1 := blk_frozen BK669.out 1; have hfz71_2 := blk_frozen BK669.out 2))
                     go_roundg k2
                     case measure => have := HK1.out; have := HK2.out; omega
                     case rel => exact ⟨(y676), (wrap64 (x39_2 + 1)), (y677), (.slice Ao70 y677.length co70), qS, H', ⟨by have := HK1.out; have := HK2.out; omega⟩, ⟨by (with_reducible repeat (first | apply Kd.R_alloc | apply Kd.R_drewN | apply Kd.R_drew)); exact Kd.R_mono (Kd.R_far (p := ⟨gb669, 1, none⟩) (Kd.R_types HO_4.out BK669.out (by decide)) (fun _ hk => hk.2) (.slice Ao70 y677.length co70)) (fun _ hk => trivial)⟩, ⟨by (with_reducible repeat (first | apply Kd.R_alloc | apply Kd.R_drewN | apply Kd.R_drew)); exact Kd.R_mono (Kd.R_far (p := ⟨gb669, 1, none⟩) (Kd.R_types HO_5.out BK669.out (by decide)) (fun _ hk => hk.2) (.slice Ao70 y677.length co70)) (fun _ hk => trivial)⟩, ⟨by (with_reducible repeat (first | apply Kd.R_alloc | apply Kd.R_drewN | apply Kd.R_drew)); exact Kd.R_mono (Kd.R_far (p := ⟨gb669, 1, none⟩) (Kd.R_types HO679.out BK669.out (by decide)) (fun _ hk => hk.2) (.slice Ao70 y677.length co70)) (fun _ hk => trivial)⟩, ⟨by (with_reducible repeat (first | refine blk_drewN ?_ _ | refine blk_drew ?_ | refine blk_alloc ?_ _)); refine blk_far ?_ NB659_669.out _; exact qK BK659.out⟩, ⟨by (with_reducible repeat (first | refine blk_drewN ?_ _ | refine blk_drew ?_ | refine blk_alloc ?_ _)); refine blk_far ?_ NB660_669.out _; exact qK BK660.out⟩, ⟨by (with_reducible repeat (first | refine blk_drewN ?_ _ | refine blk_drew ?_ | refine blk_alloc ?_ _)); refine blk_put (cs := #[.int .i64 a0_0, .slice Ao62 x670001_2.length co62, .slice none 0 0]) ?_ 1 _ rfl; exact qK BK669.out⟩, ⟨qB⟩⟩
                    ·rw [if_neg c49] at H
                     exact absurd H (by simp)
                   ·rw [if_neg c47] at H
                    exact absurd H (by simp)
                  ·rw [if_neg c45] at H
                   exact absurd H (by simp)
                 ·rw [if_neg c44] at H
                  exact absurd H (by simp)
                ·rw [if_neg c43] at H
                 have c43b0 : decide (2 < ((rd_T59 l0_1 x39_2).f0)) = false := decide_eq_false c43
                 clear c43
                 replace H := Option.bind_eq_some_iff.mp H
                 obtain ⟨t680, A720, H⟩ := H
                 replace H : (if (ji37) < (x5_2.length : Int) then (if x670001_2.length < 5864062014805 then (impl_PruneCircuit.l1 k2 t662 (x5_2.set ((ji37) : Int).toNat t680) l0_1 (l0_1.length : Int) (wrap64 (x39_2 + 1)) a0_0 l0_1 l0_2 a0_0 (x670001_2 ++ [(⟨(rd_T59 l0_1 x39_2).f0, (rd_T59 l0_1 x39_2).f1, (rd_T59 l0_1 x39_2).f2⟩ : S59)])) else (none)) else (none)) = some (r1, r2, r3, r4) := H
                 have A72 := Aside0.mk A720
                 clear A720
                 by_cases c73 : (ji37) < (x5_2.length : Int)
                 ·rw [if_pos c73] at H
                  have c73b0 : decide ((ji37) < (x5_2.length : Int)) = true := decide_eq_true c73
                  clear c73
                  obtain ⟨y681, hy681⟩ : ∃ y_ : List Int, y_ = (x5_2.set ((ji37) : Int).toNat t680) := ⟨_, rfl⟩
                  replace H : (if x670001_2.length < 5864062014805 then (impl_PruneCircuit.l1 k2 t662 y681 l0_1 (l0_1.length : Int) (wrap64 (x39_2 + 1)) a0_0 l0_1 l0_2 a0_0 (x670001_2 ++ [(⟨(rd_T59 l0_1 x39_2).f0, (rd_T59 l0_1 x39_2).f1, (rd_T59 l0_1 x39_2).f2⟩ : S59)])) else (none)) = some (r1, r2, r3, r4) := qY hy681 H
                  have Ny681 := Aside0.mk hy681
                  clear hy681
                  by_cases c75 : x670001_2.length < 5864062014805
                  ·rw [if_pos c75] at H
                   have LMc75 := Aside0.mk c75
                   clear c75
                   obtain ⟨y682, hy682⟩ : ∃ y_ : List (S59), y_ = (x670001_2 ++ [(⟨(rd_T59 l0_1 x39_2).f0, (rd_T59 l0_1 x39_2).f1, (rd_T59 l0_1 x39_2).f2⟩ : S59)]) := ⟨_, rfl⟩
                   replace H : (impl_PruneCircuit.l1 k2 t662 y681 l0_1 (l0_1.length : Int) (wrap64 (x39_2 + 1)) a0_0 l0_1 l0_2 a0_0 y682) = some (r1, r2, r3, r4) := qY hy682 H
                   have Ny682 := Aside0.mk hy682
                   clear hy682
                   have H' := Aside0.mk H
                   clear H
                   have p671 : 0 ≤ (x39_2 : Int) := qD
                   have q671 : x39_2 < (l0_1.length : Int) := qD
                   obtain ⟨ad671, e671, hx671_0, hx671_1, hx671_2⟩ := at_T59 HR0_1.out x39_2 p671 q671
                   cases e671
                   replace hx671_0 := (HB.out.cell (World.block_lt_of_cell? w _ hx671_0)).trans hx671_0
                   replace hx671_1 := (HB.out.cell (World.block_lt_of_cell? w _ hx671_1)).trans hx671_1
                   replace hx671_2 := (HB.out.cell (World.block_lt_of_cell? w _ hx671_2)).trans hx671_2
                   replace p671 := eq_true p671
                   replace q671 := eq_true q671
                   try go_wp2_with (first | ((with_reducible refine gate_dst (N := 9) rfl ?_); refine box_event ?hg (N := 9) ?hd (cs := #[.int .i64 0, .int .i64 0, .int .i64 0]) (t := 59) ?hr ?_; (case hd => rfl); (case hg => rfl); (case hr => first | (go_simp; done) | (go_simp; rfl)); intro gb672 hg w76 hbox hb; have n0_ := Aside0.mk (Kd.R_below (qR HO_4.out) hb); have n1_ := Aside0.mk (Kd.R_below (qR HO_5.out) hb); have n2_ := Aside0.mk (Kd.R_below (Kd.R_elderB (qR HO_670001.out) gb672 (Nat.le_of_eq hg.symm)) hb); have n3_ := Aside0.mk (blk_below (g := gb659) (o := .cells #[.int .i64 a0_0, .slice (some ad671) l0_1.length c0_1, .slice A0_2 l0_2.length c0_2] 30 (0, 0)) (qK BK659.out) hb); have n4_ := Aside0.mk (blk_below (g := gb660) (o := .cells #[.int .i64 0, .slice none 0 0, .slice none 0 0] 30 (0, 0)) (qK BK660.out) hb); have n5_ := Aside0.mk (blk_below (g := gb669) (o := .cells #[.int .i64 a0_0, u670001, .slice none 0 0] 30 (0, 0)) (qK BK669.out) hb); have n6_ := Aside0.mk (below_step (qB) hb); have n7_ := Aside0.mk (hbox); have n8_ := Aside0.mk ((by rw [hg]; exact (below_size (qB)) : w.heap.size ≤ gb672)); have n9_ := Aside0.mk ((by rw [hg]; exact (below_size (qB)) : w.heap.size ≤ gb672)); have n10_ := Aside0.mk ((by rw [hg]; exact Nat.ne_of_lt (blk_lt (g := gb659) (o := .cells #[.int .i64 a0_0, .slice (some ad671) l0_1.length c0_1, .slice A0_2 l0_2.length c0_2] 30 (0, 0)) (qK BK659.out)) : gb659 ≠ gb672)); have n11_ := Aside0.mk ((by rw [hg]; exact Nat.ne_of_gt (blk_lt (g := gb659) (o := .cells #[.int .i64 a0_0, .slice (some ad671) l0_1.length c0_1, .slice A0_2 l0_2.length c0_2] 30 (0, 0)) (qK BK659.out)) : gb672 ≠ gb659)); have n12_ := Aside0.mk ((by rw [hg]; exact Nat.ne_of_lt (blk_lt (g := gb660) (o := .cells #[.int .i64 0, .slice none 0 0, .slice none 0 0] 30 (0, 0)) (qK BK660.out)) : gb660 ≠ gb672)); have n13_ := Aside0.mk ((by rw [hg]; exact Nat.ne_of_gt (blk_lt (g := gb660) (o := .cells #[.int .i64 0, .slice none 0 0, .slice none 0 0] 30 (0, 0)) (qK BK660.out)) : gb672 ≠ gb660)); have n14_ := Aside0.mk ((by rw [hg]; exact Nat.ne_of_lt (blk_lt (g := gb669) (o := .cells #[.int .i64 a0_0, u670001, .slice none 0 0] 30 (0, 0)) (qK BK669.out)) : gb669 ≠ gb672)); have n15_ := Aside0.mk ((by rw [hg]; exact Nat.ne_of_gt (blk_lt (g := gb669) (o := .cells #[.int .i64 a0_0, u670001, .slice none 0 0] 30 (0, 0)) (qK BK669.out)) : gb672 ≠ gb669)); clear HO_4; clear HO_5; clear HO_670001; clear BK659; clear BK660; clear BK669; clear HB; have HO_4 := n0_; have HO_5 := n1_; have HO_670001 := n2_; have BK659 := n3_; have BK660 := n4_; have BK669 := n5_; have HB := n6_; have BK672 := n7_; have GW672 := n8_; have GE672 := n9_; have NB659_672 := n10_; have NB672_659 := n11_; have NB660_672 := n12_; have NB672_660 := n13_; have NB669_672 := n14_; have NB672_669 := n15_; clear n0_ n1_ n2_ n3_ n4_ n5_ n6_ n7_ n8_ n9_ n10_ n11_ n12_ n13_ n14_ n15_; clear hb hbox hg; have hnb77 := NB672_659.out; have hnc77 := NB659_672.out; have hnb78 := NB672_660.out; have hnc78 := NB660_672.out; have hnb79 := NB672_669.out; have hnc79 := NB669_672.out; have hcz80_0 : w76.cell? ⟨gb672, 0, none⟩ = some (.int .i64 0) := (blk_cell BK672.out 0).trans rfl; have hcz80_1 : w76.cell? ⟨gb672, 1, none⟩ = some (.int .i64 0) := (blk_cell BK672.out 1).trans rfl; have hcz80_2 : w76.cell? ⟨gb672, 2, none⟩ = some (.int .i64 0) := (blk_cell BK672.out 2).trans rfl; have hfz80_0 := blk_frozen BK672.out 0; have hfz80_1 := blk_frozen BK672.out 1; have hfz80_2 := blk_frozen BK672.out 2; have hnb81 := NB659_660.out; have hnc81 := NB660_659.out; have hnb82 := NB659_669.out; have hnc82 := NB669_659.out; have hcz83_0 : w76.cell? ⟨gb659, 0, none⟩ = some (.int .i64 a0_0) := (blk_cell BK659.out 0).trans rfl; have hcz83_1 : w76.cell? ⟨gb659, 1, none⟩ = some (.slice (some ad671) l0_1.length c0_1) := (blk_cell BK659.out 1).trans rfl; have hcz83_2 : w76.cell? ⟨gb659, 2, none⟩ = some (.slice A0_2 l0_2.length c0_2) := (blk_cell BK659.out 2).trans rfl; have hfz83_0 := blk_frozen BK659.out 0; have hfz83_1 := blk_frozen BK659.out 1; have hfz83_2 := blk_frozen BK659.out 2; obtain ⟨Ao84, co84, eo84⟩ := Kd.R_slice HO_4.out; subst eo84; have p673 : 0 ≤ ((ji37) : Int) := qD; have q673 : (ji37) < (t662.length : Int) := qD; obtain ⟨ad673, e673, hx673_0⟩ := Kd.at_bool (Kd.R_reads' HO_4.out).2.2 (ji37) p673 q673; (try rw [← Nbq40.out] at hx673_0); cases e673; have hn673_0 : ad673.block ≠ gb672 := Kd.own_blk (Kd.R_ne HO_4.out BK672.out (by decide)); have hn673_1 : ad673.block ≠ gb672 := Kd.own_blk (Kd.R_ne HO_4.out BK672.out (by decide)); have hn673_2 : ad673.block ≠ gb672 := Kd.own_blk (Kd.R_ne HO_4.out BK672.out (by decide)); replace hx673_0 := (cell_far (p := ⟨gb672, 0, none⟩) (qA hn673_0) (.int .i64 ((rd_T59 l0_1 x39_2).f0))).trans hx673_0; replace hx673_0 := (cell_far (p := ⟨gb672, 1, none⟩) (qA hn673_1) (.int .i64 ((rd_T59 l0_1 x39_2).f1))).trans hx673_0; replace hx673_0 := (cell_far (p := ⟨gb672, 2, none⟩) (qA hn673_2) (.int .i64 ((rd_T59 l0_1 x39_2).f2))).trans hx673_0; clear hn673_0; clear hn673_1; clear hn673_2; replace p673 := eq_true p673; replace q673 := eq_true q673))
                   have n0_ : Aside0 (Kd.R Kd.bool 4 (((w76.setCell ⟨gb672, 0, none⟩ (.int .i64 ((rd_T59 l0_1 x39_2).f0))).setCell ⟨gb672, 1, none⟩ (.int .i64 ((rd_T59 l0_1 x39_2).f1))).setCell ⟨gb672, 2, none⟩ (.int .i64 ((rd_T59 l0_1 x39_2).f2))) w.heap.size (fun _ => True) (.slice (some ad673) t662.length co84) t662) := ⟨by (with_reducible repeat (first | apply Kd.R_alloc | apply Kd.R_drewN | apply Kd.R_drew)); exact Kd.R_mono (Kd.R_far (p := ⟨gb672, 2, none⟩) (Kd.R_far (p := ⟨gb672, 1, none⟩) (Kd.R_far (p := ⟨gb672, 0, none⟩) (Kd.R_types HO_4.out BK672.out (by decide)) (fun _ hk => hk.2) (.int .i64 ((rd_T59 l0_1 x39_2).f0))) (fun _ hk => hk.2) (.int .i64 ((rd_T59 l0_1 x39_2).f1))) (fun _ hk => hk.2) (.int .i64 ((rd_T59 l0_1 x39_2).f2))) (fun _ hk => trivial)⟩
                   have n1_ : Aside0 (Kd.R (Kd.int .i64) 3 (((w76.setCell ⟨gb672, 0, none⟩ (.int .i64 ((rd_T59 l0_1 x39_2).f0))).setCell ⟨gb672, 1, none⟩ (.int .i64 ((rd_T59 l0_1 x39_2).f1))).setCell ⟨gb672, 2, none⟩ (.int .i64 ((rd_T59 l0_1 x39_2).f2))) w.heap.size (fun _ => True) v667 x5_2) := ⟨by (with_reducible repeat (first | apply Kd.R_alloc | apply Kd.R_drewN | apply Kd.R_drew)); exact Kd.R_mono (Kd.R_far (p := ⟨gb672, 2, none⟩) (Kd.R_far (p := ⟨gb672, 1, none⟩) (Kd.R_far (p := ⟨gb672, 0, none⟩) (Kd.R_types HO_5.out BK672.out (by decide)) (fun _ hk => hk.2) (.int .i64 ((rd_T59 l0_1 x39_2).f0))) (fun _ hk => hk.2) (.int .i64 ((rd_T59 l0_1 x39_2).f1))) (fun _ hk => hk.2) (.int .i64 ((rd_T59 l0_1 x39_2).f2))) (fun _ hk => trivial)⟩
                   have n2_ : Aside0 (Kd.R k59 59 (((w76.setCell ⟨gb672, 0, none⟩ (.int .i64 ((rd_T59 l0_1 x39_2).f0))).setCell ⟨gb672, 1, none⟩ (.int .i64 ((rd_T59 l0_1 x39_2).f1))).setCell ⟨gb672, 2, none⟩ (.int .i64 ((rd_T59 l0_1 x39_2).f2))) w.heap.size (fun k_ => k_ ≠ gb672) u670001 x670001_2) := ⟨by (with_reducible repeat (first | apply Kd.R_alloc | apply Kd.R_drewN | apply Kd.R_drew)); exact Kd.R_mono (Kd.R_far (p := ⟨gb672, 2, none⟩) (Kd.R_far (p := ⟨gb672, 1, none⟩) (Kd.R_far (p := ⟨gb672, 0, none⟩) (Kd.R_mono HO_670001.out (fun k_ hk => (⟨hk, hk.2⟩ : _ ∧ k_ ≠ gb672))) (fun _ hk => hk.2) (.int .i64 ((rd_T59 l0_1 x39_2).f0))) (fun _ hk => hk.2) (.int .i64 ((rd_T59 l0_1 x39_2).f1))) (fun _ hk => hk.2) (.int .i64 ((rd_T59 l0_1 x39_2).f2))) (fun _ hk => hk.1.2)⟩
                   have n3_ : Aside0 ((((w76.setCell ⟨gb672, 0, none⟩ (.int .i64 ((rd_T59 l0_1 x39_2).f0))).setCell ⟨gb672, 1, none⟩ (.int .i64 ((rd_T59 l0_1 x39_2).f1))).setCell ⟨gb672, 2, none⟩ (.int .i64 ((rd_T59 l0_1 x39_2).f2))).heap[gb659]? = some (.cells #[.int .i64 a0_0, .slice (some ad671) l0_1.length c0_1, .slice A0_2 l0_2.length c0_2] 30 (0, 0))) := ⟨by (with_reducible repeat (first | refine blk_drewN ?_ _ | refine blk_drew ?_ | refine blk_alloc ?_ _)); refine blk_far ?_ NB659_672.out _; (with_reducible repeat (first | refine blk_drewN ?_ _ | refine blk_drew ?_ | refine blk_alloc ?_ _)); refine blk_far ?_ NB659_672.out _; (with_reducible repeat (first | refine blk_drewN ?_ _ | refine blk_drew ?_ | refine blk_alloc ?_ _)); refine blk_far ?_ NB659_672.out _; exact qK BK659.out⟩
                   have n4_ : Aside0 ((((w76.setCell ⟨gb672, 0, none⟩ (.int .i64 ((rd_T59 l0_1 x39_2).f0))).setCell ⟨gb672, 1, none⟩ (.int .i64 ((rd_T59 l0_1 x39_2).f1))).setCell ⟨gb672, 2, none⟩ (.int .i64 ((rd_T59 l0_1 x39_2).f2))).heap[gb660]? = some (.cells #[.int .i64 0, .slice none 0 0, .slice none 0 0] 30 (0, 0))) := ⟨by (with_reducible repeat (first | refine blk_drewN ?_ _ | refine blk_drew ?_ | refine blk_alloc ?_ _)); refine blk_far ?_ NB660_672.out _; (with_reducible repeat (first | refine blk_drewN ?_ _ | refine blk_drew ?_ | refine blk_alloc ?_ _)); refine blk_far ?_ NB660_672.out _; (with_reducible repeat (first | refine blk_drewN ?_ _ | refine blk_drew ?_ | refine blk_alloc ?_ _)); refine blk_far ?_ NB660_672.out _; exact qK BK660.out⟩
                   have n5_ : Aside0 ((((w76.setCell ⟨gb672, 0, none⟩ (.int .i64 ((rd_T59 l0_1 x39_2).f0))).setCell ⟨gb672, 1, none⟩ (.int .i64 ((rd_T59 l0_1 x39_2).f1))).setCell ⟨gb672, 2, none⟩ (.int .i64 ((rd_T59 l0_1 x39_2).f2))).heap[gb669]? = some (.cells #[.int .i64 a0_0, u670001, .slice none 0 0] 30 (0, 0))) := ⟨by (with_reducible repeat (first | refine blk_drewN ?_ _ | refine blk_drew ?_ | refine blk_alloc ?_ _)); refine blk_far ?_ NB669_672.out _; (with_reducible repeat (first | refine blk_drewN ?_ _ | refine blk_drew ?_ | refine blk_alloc ?_ _)); refine blk_far ?_ NB669_672.out _; (with_reducible repeat (first | refine blk_drewN ?_ _ | refine blk_drew ?_ | refine blk_alloc ?_ _)); refine blk_far ?_ NB669_672.out _; exact qK BK669.out⟩
                   have n6_ : Aside0 ((((w76.setCell ⟨gb672, 0, none⟩ (.int .i64 ((rd_T59 l0_1 x39_2).f0))).setCell ⟨gb672, 1, none⟩ (.int .i64 ((rd_T59 l0_1 x39_2).f1))).setCell ⟨gb672, 2, none⟩ (.int .i64 ((rd_T59 l0_1 x39_2).f2))).heap[gb672]? = some (.cells #[.int .i64 ((rd_T59 l0_1 x39_2).f0), .int .i64 ((rd_T59 l0_1 x39_2).f1), .int .i64 ((rd_T59 l0_1 x39_2).f2)] 59 (0, 0))) := ⟨by (with_reducible repeat (first | refine blk_drewN ?_ _ | refine blk_drew ?_ | refine blk_alloc ?_ _)); refine blk_put (cs := #[.int .i64 ((rd_T59 l0_1 x39_2).f0), .int .i64 ((rd_T59 l0_1 x39_2).f1), .int .i64 0]) ?_ 2 _ rfl; refine blk_put (cs := #[.int .i64 ((rd_T59 l0_1 x39_2).f0), .int .i64 0, .int .i64 0]) ?_ 1 _ rfl; refine blk_put (cs := #[.int .i64 0, .int .i64 0, .int .i64 0]) ?_ 0 _ rfl; exact qK BK672.out⟩
                   have n7_ : Aside0 (Below w.heap.size w (((w76.setCell ⟨gb672, 0, none⟩ (.int .i64 ((rd_T59 l0_1 x39_2).f0))).setCell ⟨gb672, 1, none⟩ (.int .i64 ((rd_T59 l0_1 x39_2).f1))).setCell ⟨gb672, 2, none⟩ (.int .i64 ((rd_T59 l0_1 x39_2).f2)))) := ⟨qB⟩
                   (try clear HO_4)
                   (try clear HO_5)
                   (try clear HO_670001)
                   (try clear BK659)
                   (try clear BK660)
                   (try clear BK669)
                   (try clear BK672)
                   (try clear HB)
                   generalize (((w76.setCell ⟨gb672, 0, none⟩ (.int .i64 ((rd_T59 l0_1 x39_2).f0))).setCell ⟨gb672, 1, none⟩ (.int .i64 ((rd_T59 l0_1 x39_2).f1))).setCell ⟨gb672, 2, none⟩ (.int .i64 ((rd_T59 l0_1 x39_2).f2))) = w85 at n0_ n1_ n2_ n3_ n4_ n5_ n6_ n7_ ⊢
                   have HO_4 := n0_
                   have HO_5 := n1_
                   have HO_670001 := n2_
                   have BK659 := n3_
                   have BK660 := n4_
                   have BK669 := n5_
                   have BK672 := n6_
                   have HB := n7_
                   clear n0_ n1_ n2_ n3_ n4_ n5_ n6_ n7_
                   have n0_ := Aside0.mk (Kd.R_drew HO_4.out)
                   have n1_ := Aside0.mk (Kd.R_drew HO_5.out)
                   have n2_ := Aside0.mk (Kd.R_drew HO_670001.out)
                   have n3_ := Aside0.mk (blk_drew BK659.out)
                   have n4_ := Aside0.mk (blk_drew BK660.out)
                   have n5_ := Aside0.mk (blk_drew BK669.out)
                   have n6_ := Aside0.mk (blk_drew BK672.out)
                   have n7_ := Aside0.mk (below_drew1 HB.out)
                   clear HO_4
                   clear HO_5
                   clear HO_670001
                   clear BK659
                   clear BK660
                   clear BK669
                   clear BK672
                   clear HB
                   have HO_4 := n0_
                   have HO_5 := n1_
                   have HO_670001 := n2_
                   have BK659 := n3_
                   have BK660 := n4_
                   have BK669 := n5_
                   have BK672 := n6_
                   have HB := n7_
                   clear n0_ n1_ n2_ n3_ n4_ n5_ n6_ n7_
                   obtain ⟨Ao87, co87, eo87⟩ := Kd.R_slice HO_670001.out
                   (first | subst eo87 | (injection eo87 with f1_ f2_ f3_; have f4_ := f1_.symm; have f5_ := f3_.symm; clear f1_ f2_ f3_; subst f4_; subst f5_))
                   refine start_ (n := 9) (S := fun w' => w'.cell? ⟨gb659, 0, none⟩ = some (.int .i64 a0_0) ∧ w'.cell? ⟨gb659, 1, none⟩ = some (.slice (some ad671) l0_1.length c0_1) ∧ w'.cell? ⟨gb659, 2, none⟩ = some (.slice A0_2 l0_2.length c0_2) ∧ w'.cell? ⟨gb669, 0, none⟩ = some (.int .i64 a0_0) ∧ w'.cell? ⟨gb669, 1, none⟩ = some (.slice Ao87 x670001_2.length co87) ∧ w'.cell? ⟨gb669, 2, none⟩ = some (.slice none 0 0)) (ds := [8]) bX33_4 (by kernel_rfl) rfl rfl ⟨(blk_cell BK659.out 0).trans rfl, (blk_cell BK659.out 1).trans rfl, (blk_cell BK659.out 2).trans rfl, (blk_cell BK669.out 0).trans rfl, (blk_cell BK669.out 1).trans rfl, (blk_cell BK669.out 2).trans rfl⟩ (fun hHeld => ?_); refine with_tabW impl_PruneCircuit.tab17 impl_PruneCircuit.bits17 (fun HT_ HW_ => ?_)
                   generalize w85.drew = w86 at HO_4 HO_5 HO_670001 BK659 BK660 BK669 BK672 HB hHeld ⊢
                   refine pure_ (i := 0) (N := some 70) (v := ?_) (a' := ?_) bX33_5 rfl rfl (any_of HT_.out (by kernel_rfl)) (fun _ _ _ h => h) (Or.inl ⟨by rfl, ?_⟩) ?_ ?_
                   rotate_left
                   ·intro w'
                    go_simp
                    with_reducible rfl
                   rotate_left
                   ·simp only [Act.put, List.setIfInBounds_toArray, List.set_cons_zero, List.set_cons_succ, i64_w, i32_w]
                    rfl
                   refine pure_ (i := 1) (N := some 71) (v := ?_) (a' := ?_) bX33_6 rfl rfl (any_of HT_.out (by kernel_rfl)) (fun _ _ _ h => h) (Or.inl ⟨by rfl, ?_⟩) ?_ ?_
                   rotate_left
                   ·intro w'
                    go_simp
                    with_reducible rfl
                   rotate_left
                   ·simp only [Act.put, List.setIfInBounds_toArray, List.set_cons_zero, List.set_cons_succ, i64_w, i32_w]
                    rfl
                   refine pure_ (i := 3) (N := some 73) (v := ?_) (a' := ?_) bX33_7 rfl rfl (any_of HT_.out (by kernel_rfl)) (fun _ _ _ h => h) (Or.inl ⟨by rfl, ?_⟩) ?_ ?_
                   rotate_left
                   ·intro w'
                    go_simp
                    with_reducible rfl
                   rotate_left
                   ·simp only [Act.put, List.setIfInBounds_toArray, List.set_cons_zero, List.set_cons_succ, i64_w, i32_w]
                    rfl
                   refine take_ (i := 2) (N := some 72) (v := ?_) (a' := ?_) bX33_8 rfl rfl (take_ofW HT_.out HW_.out (by kernel_rfl)) (fun _ _ _ h => h) (Or.inl ⟨by rfl, ?_⟩) hHeld ?_ ?_
                   rotate_left
                   ·rintro w' ⟨s0, s1, s2, s3, s4, s5⟩
                    go_simp
                    with_reducible rfl
                   rotate_left
                   ·simp only [Act.put, List.setIfInBounds_toArray, List.set_cons_zero, List.set_cons_succ, i64_w, i32_w]
                    rfl
                   refine pure_ (i := 4) (N := some 74) (v := ?_) (a' := ?_) bX33_9 rfl rfl (any_of HT_.out (by kernel_rfl)) (fun _ _ _ h => h) (Or.inl ⟨by rfl, ?_⟩) ?_ ?_
                   rotate_left
                   ·intro w'
                    go_simp
                    with_reducible rfl
                   rotate_left
                   ·simp only [Act.put, List.setIfInBounds_toArray, List.set_cons_zero, List.set_cons_succ, i64_w, i32_w]
                    rfl
                   refine take_ (i := 5) (N := some 75) (v := ?_) (a' := ?_) bX33_10 rfl rfl (take_ofW HT_.out HW_.out (by kernel_rfl)) (fun _ _ _ h => h) (Or.inl ⟨by rfl, ?_⟩) hHeld ?_ ?_
                   rotate_left
                   ·rintro w' ⟨s0, s1, s2, s3, s4, s5⟩
                    go_simp
                    with_reducible rfl
                   rotate_left
                   ·simp only [Act.put, List.setIfInBounds_toArray, List.set_cons_zero, List.set_cons_succ, i64_w, i32_w]
                    rfl
                   refine one_ (i := 6) (N := some 76) bX33_11 rfl rfl (one_of HT_.out (by kernel_rfl)) (by decide) (fun K hK => ?_)
                   refine goes_ Try.func49 (by kernel_rfl) rfl #[.agg #[.int .i64 a0_0, .slice Ao87 x670001_2.length co87, .slice none 0 0]] (by rfl) rfl rfl qG ?_
                   refine (impl_Circuit_wires.calls a0_0 _ _ x670001_2 _ _ ([] : List Int) t680 _ ?side1 ?side2 ?side3 ?side4 A72.out).mono ?_
                   (case side1 => repeat (first | exact (Kd.R_reads' HO_670001.out).2.2 | (with_reducible refine Kd.C_alloc ?_ _) | (with_reducible refine Kd.C_drewN ?_ _) | (with_reducible refine Kd.C_drew ?_)))
                   (case side2 => exact (Kd.R_reads' HO_670001.out).2.1)
                   (case side3 => exact Kd.C_nil _ _)
                   (case side4 => exact Nat.le_refl _)
                   rintro e w88 ⟨rfl, hb⟩
                   refine ⟨_, rfl, ?_⟩
                   have n0_ := Aside0.mk (Kd.R_below (qR HO_4.out) hb)
                   have n1_ := Aside0.mk (Kd.R_below (qR HO_5.out) hb)
                   have n2_ := Aside0.mk (Kd.R_below (qR HO_670001.out) hb)
                   have n3_ := Aside0.mk (blk_below (g := gb659) (o := .cells #[.int .i64 a0_0, .slice (some ad671) l0_1.length c0_1, .slice A0_2 l0_2.length c0_2] 30 (0, 0)) (qK BK659.out) hb)
                   have n4_ := Aside0.mk (blk_below (g := gb660) (o := .cells #[.int .i64 0, .slice none 0 0, .slice none 0 0] 30 (0, 0)) (qK BK660.out) hb)
                   have n5_ := Aside0.mk (blk_below (g := gb669) (o := .cells #[.int .i64 a0_0, .slice Ao87 x670001_2.length co87, .slice none 0 0] 30 (0, 0)) (qK BK669.out) hb)
                   have n6_ := Aside0.mk (blk_below (g := gb672) (o := .cells #[.int .i64 ((rd_T59 l0_1 x39_2).f0), .int .i64 ((rd_T59 l0_1 x39_2).f1), .int .i64 ((rd_T59 l0_1 x39_2).f2)] 59 (0, 0)) (qK BK672.out) hb)
                   have n7_ := Aside0.mk (below_step (qB) hb)
                   clear HO_4
                   clear HO_5
                   clear HO_670001
                   clear BK659
                   clear BK660
                   clear BK669
                   clear BK672
                   clear HB
                   have HO_4 := n0_
                   have HO_5 := n1_
                   have HO_670001 := n2_
                   have BK659 := n3_
                   have BK660 := n4_
                   have BK669 := n5_
                   have BK672 := n6_
                   have HB := n7_
                   clear n0_ n1_ n2_ n3_ n4_ n5_ n6_ n7_
                   (try clear hb)
                   (try clear hb2)
                   (try clear hk)
                   (try clear hi)
                   have p74 : 0 ≤ ((ji37) : Int) := qD
                   have q74 : ((ji37) : Int) < ((x5_2.length : Int) : Int) := qD
                   obtain ⟨go74, co74, eo74, gb74, gl74, cl74, HG74⟩ := Kd.R_form HO_5.out (by omega)
                   (first | cases eo74 | (injection eo74 with ea_ en_ ec_; (first | subst ea_ | (injection ea_ with ea_; subst ea_)); subst ec_; clear en_))
                   have GB74 := Aside0.mk gb74
                   have GG74 := Aside0.mk HG74
                   clear gb74 gl74 HG74
                   obtain ⟨hx74_0, hf74_0⟩ := Kd.R_celln 0 HO_5.out ((ji37) : Int) p74 q74
                   replace p74 := eq_true p74
                   replace q74 := eq_true q74
                   have HP89 := Kd.R_putn HO_5.out ((ji37) : Int) t680
                   rw [← Ny681.out] at HP89
                   have HQ89 := Aside0.mk HP89
                   clear HP89
                   refine hK.out _ _ ⟨(blk_cell BK659.out 0).trans rfl, (blk_cell BK659.out 1).trans rfl, (blk_cell BK659.out 2).trans rfl, (blk_cell BK669.out 0).trans rfl, (blk_cell BK669.out 1).trans rfl, (blk_cell BK669.out 2).trans rfl⟩ (fun hHeld => ?_)
                   clear hK K
                   refine norm_ (a' := ?_) ?_ ?_
                   rotate_left
                   ·show Act.put _ (some 76) _ = _
                    simp only [Act.put, List.setIfInBounds_toArray, List.set_cons_zero, List.set_cons_succ, i64_w, i32_w]
                    rfl
                   refine pure_ (i := 7) (N := some 77) (v := ?_) (a' := ?_) bX33_12 rfl rfl (any_of HT_.out (by kernel_rfl)) (fun _ _ _ h => h) (Or.inl ⟨by rfl, ?_⟩) ?_ ?_
                   rotate_left
                   ·intro w'
                    go_simp
                    with_reducible rfl
                   rotate_left
                   ·simp only [Act.put, List.setIfInBounds_toArray, List.set_cons_zero, List.set_cons_succ, i64_w, i32_w]
                    rfl
                   refine last_ (i := 8) (N := none) bX33_13 rfl rfl (one_of HT_.out (by kernel_rfl)) (by decide) (fun K hK => ?_)
                   refine skip_ (w1 := ?_) (by rfl) rfl ?_ ?_
                   rotate_left
                   ·go_simp
                    rfl
                   refine hK.out _ _ ?_
                   clear hK K
                   refine done_ (done_of HT_.out (by kernel_rfl)) ?_
                   have n0_ : Aside0 (Kd.R Kd.bool 4 (w88.setCell ⟨go74, ((ji37) : Int).toNat, none⟩ (.int .i64 t680)) w.heap.size (fun _ => True) (.slice (some ad673) t662.length co84) t662) := ⟨by (with_reducible repeat (first | apply Kd.R_alloc | apply Kd.R_drewN | apply Kd.R_drew)); exact Kd.R_mono (Kd.R_far (p := ⟨go74, ((ji37) : Int).toNat, none⟩) (Kd.R_types HO_4.out GG74.out (by decide)) (fun _ hk => hk.2) (.int .i64 t680)) (fun _ hk => trivial)⟩
                   have n1_ : Aside0 (Kd.R (Kd.int .i64) 3 (w88.setCell ⟨go74, ((ji37) : Int).toNat, none⟩ (.int .i64 t680)) w.heap.size (fun _ => True) (.slice (some ⟨go74, 0, none⟩) x5_2.length co74) y681) := ⟨qR HQ89.out⟩
                   have n2_ : Aside0 (Kd.R k59 59 (w88.setCell ⟨go74, ((ji37) : Int).toNat, none⟩ (.int .i64 t680)) w.heap.size (fun k_ => k_ ≠ gb672) (.slice Ao87 x670001_2.length co87) x670001_2) := ⟨by (with_reducible repeat (first | apply Kd.R_alloc | apply Kd.R_drewN | apply Kd.R_drew)); exact Kd.R_mono (Kd.R_far (p := ⟨go74, ((ji37) : Int).toNat, none⟩) (Kd.R_types HO_670001.out GG74.out (by decide)) (fun _ hk => hk.2) (.int .i64 t680)) (fun _ hk => hk.1)⟩
                   have n3_ : Aside0 ((w88.setCell ⟨go74, ((ji37) : Int).toNat, none⟩ (.int .i64 t680)).heap[gb659]? = some (.cells #[.int .i64 a0_0, .slice (some ad671) l0_1.length c0_1, .slice A0_2 l0_2.length c0_2] 30 (0, 0))) := ⟨by (with_reducible repeat (first | refine blk_drewN ?_ _ | refine blk_drew ?_ | refine blk_alloc ?_ _)); refine blk_far ?_ (by have h_ := Kd.R_ne HO_5.out BK659.out (by decide); intro e_; exact h_ (by rw [e_]; rfl)) _; exact qK BK659.out⟩
                   have n4_ : Aside0 ((w88.setCell ⟨go74, ((ji37) : Int).toNat, none⟩ (.int .i64 t680)).heap[gb660]? = some (.cells #[.int .i64 0, .slice none 0 0, .slice none 0 0] 30 (0, 0))) := ⟨by (with_reducible repeat (first | refine blk_drewN ?_ _ | refine blk_drew ?_ | refine blk_alloc ?_ _)); refine blk_far ?_ (by have h_ := Kd.R_ne HO_5.out BK660.out (by decide); intro e_; exact h_ (by rw [e_]; rfl)) _; exact qK BK660.out⟩
                   have n5_ : Aside0 ((w88.setCell ⟨go74, ((ji37) : Int).toNat, none⟩ (.int .i64 t680)).heap[gb669]? = some (.cells #[.int .i64 a0_0, .slice Ao87 x670001_2.length co87, .slice none 0 0] 30 (0, 0))) := ⟨by (with_reducible repeat (first | refine blk_drewN ?_ _ | refine blk_drew ?_ | refine blk_alloc ?_ _)); refine blk_far ?_ (by have h_ := Kd.R_ne HO_5.out BK669.out (by decide); intro e_; exact h_ (by rw [e_]; rfl)) _; exact qK BK669.out⟩
                   have n6_ : Aside0 ((w88.setCell ⟨go74, ((ji37) : Int).toNat, none⟩ (.int .i64 t680)).heap[gb672]? = some (.cells #[.int .i64 ((rd_T59 l0_1 x39_2).f0), .int .i64 ((rd_T59 l0_1 x39_2).f1), .int .i64 ((rd_T59 l0_1 x39_2).f2)] 59 (0, 0))) := ⟨by (with_reducible repeat (first | refine blk_drewN ?_ _ | refine blk_drew ?_ | refine blk_alloc ?_ _)); refine blk_far ?_ (by have h_ := Kd.R_ne HO_5.out BK672.out (by decide); intro e_; exact h_ (by rw [e_]; rfl)) _; exact qK BK672.out⟩
                   have n7_ : Aside0 (Below w.heap.size w (w88.setCell ⟨go74, ((ji37) : Int).toNat, none⟩ (.int .i64 t680))) := ⟨by repeat (first | (with_reducible first | exact HB.out | apply below_alloc | apply pw_below_drewN | apply below_drew1 | refine below_set ?_ GB74.out | refine below_set ?_ GE659.out | refine below_set ?_ GE660.out | refine below_set ?_ GE669.out | refine below_set ?_ GE672.out) | exact HB.out)⟩
                   (try clear HO_4)
                   (try clear HO_5)
                   (try clear HO_670001)
                   (try clear BK659)
                   (try clear BK660)
                   (try clear BK669)
                   (try clear BK672)
                   (try clear HB)
                   generalize (w88.setCell ⟨go74, ((ji37) : Int).toNat, none⟩ (.int .i64 t680)) = w90 at n0_ n1_ n2_ n3_ n4_ n5_ n6_ n7_ ⊢
                   have HO_4 := n0_
                   have HO_5 := n1_
                   have HO_670001 := n2_
                   have BK659 := n3_
                   have BK660 := n4_
                   have BK669 := n5_
                   have BK672 := n6_
                   have HB := n7_
                   clear n0_ n1_ n2_ n3_ n4_ n5_ n6_ n7_
                   have hnb91 := NB669_660.out
                   have hnc91 := NB660_669.out
                   have hcz92_0 : w90.cell? ⟨gb669, 0, none⟩ = some (.int .i64 a0_0) := (blk_cell BK669.out 0).trans rfl
                   have hcz92_1 : w90.cell? ⟨gb669, 1, none⟩ = some (.slice Ao87 x670001_2.length co87) := (blk_cell BK669.out 1).trans rfl
                   have hcz92_2 : w90.cell? ⟨gb669, 2, none⟩ = some (.slice none 0 0) := (blk_cell BK669.out 2).trans rfl
                   have hfz92_0 := blk_frozen BK669.out 0
                   have hfz92_1 := blk_frozen BK669.out 1
                   have hfz92_2 := blk_frozen BK669.out 2
                   have hcz93_0 : w90.cell? ⟨gb672, 0, none⟩ = some (.int .i64 ((rd_T59 l0_1 x39_2).f0)) := (blk_cell BK672.out 0).trans rfl
                   have hcz93_1 : w90.cell? ⟨gb672, 1, none⟩ = some (.int .i64 ((rd_T59 l0_1 x39_2).f1)) := (blk_cell BK672.out 1).trans rfl
                   have hcz93_2 : w90.cell? ⟨gb672, 2, none⟩ = some (.int .i64 ((rd_T59 l0_1 x39_2).f2)) := (blk_cell BK672.out 2).trans rfl
                   have hfz93_0 := blk_frozen BK672.out 0
                   have hfz93_1 := blk_frozen BK672.out 1
                   have hfz93_2 := blk_frozen BK672.out 2
                   try go_wp2_with (first | ((with_reducible refine gate_builtin (b := .append) (xs := #[.tmp 79, .tmp 81]) rfl ?_); at_builtin; refine Kd.R_append k59 (w0 := w) w.heap.size rfl (.tmp 79) (.tmp 81) 28 59 (.agg #[(.int .i64 0), (.int .i64 0), (.int .i64 0)]) 24 rfl Try.underlying28 info59 rfl (by decide) (by omega) (.slice Ao87 x670001_2.length co87) x670001_2 (⟨(rd_T59 l0_1 x39_2).f0, (rd_T59 l0_1 x39_2).f1, (rd_T59 l0_1 x39_2).f2⟩ : S59) [.int .i64 ((rd_T59 l0_1 x39_2).f0), .int .i64 ((rd_T59 l0_1 x39_2).f1), .int .i64 ((rd_T59 l0_1 x39_2).f2)] (fun k_ => k_ ≠ gb672) (fun _ => False) rfl rfl ?aP (fun _ hk => hk.elim) ?aF ?aO ?aB ?aS ?aL ?_; (case aP => exact k59_mkM _ _ _ (⟨(rd_T59 l0_1 x39_2).f0, (rd_T59 l0_1 x39_2).f1, (rd_T59 l0_1 x39_2).f2⟩ : S59)); (case aB => exact (qB)); (case aF => exact (fun k_ hk => Kd.freshB (g := gb672) (o := .cells #[.int .i64 ((rd_T59 l0_1 x39_2).f0), .int .i64 ((rd_T59 l0_1 x39_2).f1), .int .i64 ((rd_T59 l0_1 x39_2).f2)] 59 (0, 0)) (qK BK672.out) k_ hk)); (case aO => exact (qR HO_670001.out)); (case aS => exact (below_size (qB))); (case aL => have := LMc75.out; omega); intro v683 w94 ho hb hg hat; rw [← Ny682.out] at ho; have n0_ := Aside0.mk (Kd.R_over' (qR HO_4.out) (Kd.R_typed (qR HO_670001.out)) (by decide) hg); have n1_ := Aside0.mk (Kd.R_over' (qR HO_5.out) (Kd.R_typed (qR HO_670001.out)) (by decide) hg); have n2_ := Aside0.mk (blk_grown (g := gb659) (o := .cells #[.int .i64 a0_0, .slice (some ad671) l0_1.length c0_1, .slice A0_2 l0_2.length c0_2] 30 (0, 0)) (qK BK659.out) hg (Kd.R_ne HO_670001.out BK659.out (by decide))); have n3_ := Aside0.mk (blk_grown (g := gb660) (o := .cells #[.int .i64 0, .slice none 0 0, .slice none 0 0] 30 (0, 0)) (qK BK660.out) hg (Kd.R_ne HO_670001.out BK660.out (by decide))); have n4_ := Aside0.mk (blk_grown (g := gb669) (o := .cells #[.int .i64 a0_0, .slice Ao87 x670001_2.length co87, .slice none 0 0] 30 (0, 0)) (qK BK669.out) hg (Kd.R_ne HO_670001.out BK669.out (by decide))); have n5_ := Aside0.mk (blk_grown (g := gb672) (o := .cells #[.int .i64 ((rd_T59 l0_1 x39_2).f0), .int .i64 ((rd_T59 l0_1 x39_2).f1), .int .i64 ((rd_T59 l0_1 x39_2).f2)] 59 (0, 0)) (qK BK672.out) hg (Kd.R_away HO_670001.out (fun _ hk => hk))); have n6_ := Aside0.mk (hb); have n7_ := Aside0.mk (ho); clear HO_4; clear HO_5; clear BK659; clear BK660; clear BK669; clear BK672; clear HB; clear HO_670001; have HO_4 := n0_; have HO_5 := n1_; have BK659 := n2_; have BK660 := n3_; have BK669 := n4_; have BK672 := n5_; have HB := n6_; have HO684 := n7_; clear n0_ n1_ n2_ n3_ n4_ n5_ n6_ n7_; clear ho hb hg hat; obtain ⟨Ao95, co95, eo95⟩ := Kd.R_slice HO684.out; subst eo95; have hcz96_0 : w94.cell? ⟨gb669, 0, none⟩ = some (.int .i64 a0_0) := (blk_cell BK669.out 0).trans rfl; have hcz96_1 : w94.cell? ⟨gb669, 1, none⟩ = some (.slice Ao87 x670001_2.length co87) := (blk_cell BK669.out 1).trans rfl; have hcz96_2 : w94.cell? ⟨gb669, 2, none⟩ = some (.slice none 0 0) := (blk_cell BK669.out 2).trans rfl; have hfz96_0 := blk_frozen BK669.out 0; have hfz96_1 := blk_frozen BK669.out 1; have hfz96_2 := blk_frozen BK669.out 2))
                   go_roundg k2
                   case measure => have := HK1.out; have := HK2.out; omega
                   case rel => exact ⟨(y681), (wrap64 (x39_2 + 1)), (y682), (.slice Ao95 y682.length co95), qS, H', ⟨by have := HK1.out; have := HK2.out; omega⟩, ⟨by (with_reducible repeat (first | apply Kd.R_alloc | apply Kd.R_drewN | apply Kd.R_drew)); exact Kd.R_mono (Kd.R_far (p := ⟨gb669, 1, none⟩) (Kd.R_types HO_4.out BK669.out (by decide)) (fun _ hk => hk.2) (.slice Ao95 y682.length co95)) (fun _ hk => trivial)⟩, ⟨by (with_reducible repeat (first | apply Kd.R_alloc | apply Kd.R_drewN | apply Kd.R_drew)); exact Kd.R_mono (Kd.R_far (p := ⟨gb669, 1, none⟩) (Kd.R_types HO_5.out BK669.out (by decide)) (fun _ hk => hk.2) (.slice Ao95 y682.length co95)) (fun _ hk => trivial)⟩, ⟨by (with_reducible repeat (first | apply Kd.R_alloc | apply Kd.R_drewN | apply Kd.R_drew)); exact Kd.R_mono (Kd.R_far (p := ⟨gb669, 1, none⟩) (Kd.R_types HO684.out BK669.out (by decide)) (fun _ hk => hk.2) (.slice Ao95 y682.length co95)) (fun _ hk => trivial)⟩, ⟨by (with_reducible repeat (first | refine blk_drewN ?_ _ | refine blk_drew ?_ | refine blk_alloc ?_ _)); refine blk_far ?_ NB659_669.out _; exact qK BK659.out⟩, ⟨by (with_reducible repeat (first | refine blk_drewN ?_ _ | refine blk_drew ?_ | refine blk_alloc ?_ _)); refine blk_far ?_ NB660_669.out _; exact qK BK660.out⟩, ⟨by (with_reducible repeat (first | refine blk_drewN ?_ _ | refine blk_drew ?_ | refine blk_alloc ?_ _)); refine blk_put (cs := #[.int .i64 a0_0, .slice Ao87 x670001_2.length co87, .slice none 0 0]) ?_ 1 _ rfl; exact qK BK669.out⟩, ⟨qB⟩⟩
                  ·rw [if_neg c75] at H
                   exact absurd H (by simp)
                 ·rw [if_neg c73] at H
                  exact absurd H (by simp)
               ·rw [if_neg c42] at H
                have c42b0 : (((rd_T59 l0_1 x39_2).f0) == 1) = false := beq_eq_false_iff_ne.mpr c42
                have c42b1 : (((rd_T59 l0_1 x39_2).f0) != 1) = true := bne_iff_ne.mpr c42
                by_cases c97 : 0 ≤ ((rd_T59 l0_1 x39_2).f1)
                ·rw [if_pos c97] at H
                 have c97b0 : decide (0 ≤ ((rd_T59 l0_1 x39_2).f1)) = true := decide_eq_true c97
                 clear c97
                 by_cases c98 : ((rd_T59 l0_1 x39_2).f1) < (x5_2.length : Int)
                 ·rw [if_pos c98] at H
                  have c98b0 : decide (((rd_T59 l0_1 x39_2).f1) < (x5_2.length : Int)) = true := decide_eq_true c98
                  clear c98
                  by_cases c99 : ((rd_T59 l0_1 x39_2).f0) > 2
                  ·rw [if_pos c99] at H
                   have c99b0 : decide (2 < ((rd_T59 l0_1 x39_2).f0)) = true := decide_eq_true c99
                   clear c99
                   by_cases c100 : 0 ≤ ((rd_T59 l0_1 x39_2).f2)
                   ·rw [if_pos c100] at H
                    have c100b0 : decide (0 ≤ ((rd_T59 l0_1 x39_2).f2)) = true := decide_eq_true c100
                    clear c100
                    by_cases c101 : ((rd_T59 l0_1 x39_2).f2) < (x5_2.length : Int)
                    ·rw [if_pos c101] at H
                     have c101b0 : decide (((rd_T59 l0_1 x39_2).f2) < (x5_2.length : Int)) = true := decide_eq_true c101
                     clear c101
                     replace H := Option.bind_eq_some_iff.mp H
                     obtain ⟨t687, A1020, H⟩ := H
                     replace H : (if (ji37) < (x5_2.length : Int) then (if x670001_2.length < 5864062014805 then (impl_PruneCircuit.l1 k2 t662 (x5_2.set ((ji37) : Int).toNat t687) l0_1 (l0_1.length : Int) (wrap64 (x39_2 + 1)) a0_0 l0_1 l0_2 a0_0 (x670001_2 ++ [(⟨(rd_T59 l0_1 x39_2).f0, rd x5_2 ((rd_T59 l0_1 x39_2).f1), rd x5_2 ((rd_T59 l0_1 x39_2).f2)⟩ : S59)])) else (none)) else (none)) = some (r1, r2, r3, r4) := H
                     have A102 := Aside0.mk A1020
                     clear A1020
                     by_cases c103 : (ji37) < (x5_2.length : Int)
                     ·rw [if_pos c103] at H
                      have c103b0 : decide ((ji37) < (x5_2.length : Int)) = true := decide_eq_true c103
                      clear c103
                      obtain ⟨y688, hy688⟩ : ∃ y_ : List Int, y_ = (x5_2.set ((ji37) : Int).toNat t687) := ⟨_, rfl⟩
                      replace H : (if x670001_2.length < 5864062014805 then (impl_PruneCircuit.l1 k2 t662 y688 l0_1 (l0_1.length : Int) (wrap64 (x39_2 + 1)) a0_0 l0_1 l0_2 a0_0 (x670001_2 ++ [(⟨(rd_T59 l0_1 x39_2).f0, rd x5_2 ((rd_T59 l0_1 x39_2).f1), rd x5_2 ((rd_T59 l0_1 x39_2).f2)⟩ : S59)])) else (none)) = some (r1, r2, r3, r4) := qY hy688 H
                      have Ny688 := Aside0.mk hy688
                      clear hy688
                      by_cases c105 : x670001_2.length < 5864062014805
                      ·rw [if_pos c105] at H
                       have LMc105 := Aside0.mk c105
                       clear c105
                       obtain ⟨y689, hy689⟩ : ∃ y_ : List (S59), y_ = (x670001_2 ++ [(⟨(rd_T59 l0_1 x39_2).f0, rd x5_2 ((rd_T59 l0_1 x39_2).f1), rd x5_2 ((rd_T59 l0_1 x39_2).f2)⟩ : S59)]) := ⟨_, rfl⟩
                       replace H : (impl_PruneCircuit.l1 k2 t662 y688 l0_1 (l0_1.length : Int) (wrap64 (x39_2 + 1)) a0_0 l0_1 l0_2 a0_0 y689) = some (r1, r2, r3, r4) := qY hy689 H
                       have Ny689 := Aside0.mk hy689
                       clear hy689
                       have H' := Aside0.mk H
                       clear H
                       have p671 : 0 ≤ (x39_2 : Int) := qD
                       have q671 : x39_2 < (l0_1.length : Int) := qD
                       obtain ⟨ad671, e671, hx671_0, hx671_1, hx671_2⟩ := at_T59 HR0_1.out x39_2 p671 q671
                       cases e671
                       replace hx671_0 := (HB.out.cell (World.block_lt_of_cell? w _ hx671_0)).trans hx671_0
                       replace hx671_1 := (HB.out.cell (World.block_lt_of_cell? w _ hx671_1)).trans hx671_1
                       replace hx671_2 := (HB.out.cell (World.block_lt_of_cell? w _ hx671_2)).trans hx671_2
                       replace p671 := eq_true p671
                       replace q671 := eq_true q671
                       try go_wp2_with (first | ((with_reducible refine gate_dst (N := 9) rfl ?_); refine box_event ?hg (N := 9) ?hd (cs := #[.int .i64 0, .int .i64 0, .int .i64 0]) (t := 59) ?hr ?_; (case hd => rfl); (case hg => rfl); (case hr => first | (go_simp; done) | (go_simp; rfl)); intro gb672 hg w106 hbox hb; have n0_ := Aside0.mk (Kd.R_below (qR HO_4.out) hb); have n1_ := Aside0.mk (Kd.R_below (qR HO_5.out) hb); have n2_ := Aside0.mk (Kd.R_below (Kd.R_elderB (qR HO_670001.out) gb672 (Nat.le_of_eq hg.symm)) hb); have n3_ := Aside0.mk (blk_below (g := gb659) (o := .cells #[.int .i64 a0_0, .slice (some ad671) l0_1.length c0_1, .slice A0_2 l0_2.length c0_2] 30 (0, 0)) (qK BK659.out) hb); have n4_ := Aside0.mk (blk_below (g := gb660) (o := .cells #[.int .i64 0, .slice none 0 0, .slice none 0 0] 30 (0, 0)) (qK BK660.out) hb); have n5_ := Aside0.mk (blk_below (g := gb669) (o := .cells #[.int .i64 a0_0, u670001, .slice none 0 0] 30 (0, 0)) (qK BK669.out) hb); have n6_ := Aside0.mk (below_step (qB) hb); have n7_ := Aside0.mk (hbox); have n8_ := Aside0.mk ((by rw [hg]; exact (below_size (qB)) : w.heap.size ≤ gb672)); have n9_ := Aside0.mk ((by rw [hg]; exact (below_size (qB)) : w.heap.size ≤ gb672)); have n10_ := Aside0.mk ((by rw [hg]; exact Nat.ne_of_lt (blk_lt (g := gb659) (o := .cells #[.int .i64 a0_0, .slice (some ad671) l0_1.length c0_1, .slice A0_2 l0_2.length c0_2] 30 (0, 0)) (qK BK659.out)) : gb659 ≠ gb672)); have n11_ := Aside0.mk ((by rw [hg]; exact Nat.ne_of_gt (blk_lt (g := gb659) (o := .cells #[.int .i64 a0_0, .slice (some ad671) l0_1.length c0_1, .slice A0_2 l0_2.length c0_2] 30 (0, 0)) (qK BK659.out)) : gb672 ≠ gb659)); have n12_ := Aside0.mk ((by rw [hg]; exact Nat.ne_of_lt (blk_lt (g := gb660) (o := .cells #[.int .i64 0, .slice none 0 0, .slice none 0 0] 30 (0, 0)) (qK BK660.out)) : gb660 ≠ gb672)); have n13_ := Aside0.mk ((by rw [hg]; exact Nat.ne_of_gt (blk_lt (g := gb660) (o := .cells #[.int .i64 0, .slice none 0 0, .slice none 0 0] 30 (0, 0)) (qK BK660.out)) : gb672 ≠ gb660)); have n14_ := Aside0.mk ((by rw [hg]; exact Nat.ne_of_lt (blk_lt (g := gb669) (o := .cells #[.int .i64 a0_0, u670001, .slice none 0 0] 30 (0, 0)) (qK BK669.out)) : gb669 ≠ gb672)); have n15_ := Aside0.mk ((by rw [hg]; exact Nat.ne_of_gt (blk_lt (g := gb669) (o := .cells #[.int .i64 a0_0, u670001, .slice none 0 0] 30 (0, 0)) (qK BK669.out)) : gb672 ≠ gb669)); clear HO_4; clear HO_5; clear HO_670001; clear BK659; clear BK660; clear BK669; clear HB; have HO_4 := n0_; have HO_5 := n1_; have HO_670001 := n2_; have BK659 := n3_; have BK660 := n4_; have BK669 := n5_; have HB := n6_; have BK672 := n7_; have GW672 := n8_; have GE672 := n9_; have NB659_672 := n10_; have NB672_659 := n11_; have NB660_672 := n12_; have NB672_660 := n13_; have NB669_672 := n14_; have NB672_669 := n15_; clear n0_ n1_ n2_ n3_ n4_ n5_ n6_ n7_ n8_ n9_ n10_ n11_ n12_ n13_ n14_ n15_; clear hb hbox hg; have hnb107 := NB672_659.out; have hnc107 := NB659_672.out; have hnb108 := NB672_660.out; have hnc108 := NB660_672.out; have hnb109 := NB672_669.out; have hnc109 := NB669_672.out; have hcz110_0 : w106.cell? ⟨gb672, 0, none⟩ = some (.int .i64 0) := (blk_cell BK672.out 0).trans rfl; have hcz110_1 : w106.cell? ⟨gb672, 1, none⟩ = some (.int .i64 0) := (blk_cell BK672.out 1).trans rfl; have hcz110_2 : w106.cell? ⟨gb672, 2, none⟩ = some (.int .i64 0) := (blk_cell BK672.out 2).trans rfl; have hfz110_0 := blk_frozen BK672.out 0; have hfz110_1 := blk_frozen BK672.out 1; have hfz110_2 := blk_frozen BK672.out 2; have hnb111 := NB659_660.out; have hnc111 := NB660_659.out; have hnb112 := NB659_669.out; have hnc112 := NB669_659.out; have hcz113_0 : w106.cell? ⟨gb659, 0, none⟩ = some (.int .i64 a0_0) := (blk_cell BK659.out 0).trans rfl; have hcz113_1 : w106.cell? ⟨gb659, 1, none⟩ = some (.slice (some ad671) l0_1.length c0_1) := (blk_cell BK659.out 1).trans rfl; have hcz113_2 : w106.cell? ⟨gb659, 2, none⟩ = some (.slice A0_2 l0_2.length c0_2) := (blk_cell BK659.out 2).trans rfl; have hfz113_0 := blk_frozen BK659.out 0; have hfz113_1 := blk_frozen BK659.out 1; have hfz113_2 := blk_frozen BK659.out 2; obtain ⟨Ao114, co114, eo114⟩ := Kd.R_slice HO_4.out; subst eo114; have p673 : 0 ≤ ((ji37) : Int) := qD; have q673 : (ji37) < (t662.length : Int) := qD; obtain ⟨ad673, e673, hx673_0⟩ := Kd.at_bool (Kd.R_reads' HO_4.out).2.2 (ji37) p673 q673; (try rw [← Nbq40.out] at hx673_0); cases e673; have hn673_0 : ad673.block ≠ gb672 := Kd.own_blk (Kd.R_ne HO_4.out BK672.out (by decide)); have hn673_1 : ad673.block ≠ gb672 := Kd.own_blk (Kd.R_ne HO_4.out BK672.out (by decide)); have hn673_2 : ad673.block ≠ gb672 := Kd.own_blk (Kd.R_ne HO_4.out BK672.out (by decide)); replace hx673_0 := (cell_far (p := ⟨gb672, 0, none⟩) (qA hn673_0) (.int .i64 ((rd_T59 l0_1 x39_2).f0))).trans hx673_0; replace hx673_0 := (cell_far (p := ⟨gb672, 1, none⟩) (qA hn673_1) (.int .i64 ((rd_T59 l0_1 x39_2).f1))).trans hx673_0; replace hx673_0 := (cell_far (p := ⟨gb672, 2, none⟩) (qA hn673_2) (.int .i64 ((rd_T59 l0_1 x39_2).f2))).trans hx673_0; clear hn673_0; clear hn673_1; clear hn673_2; replace p673 := eq_true p673; replace q673 := eq_true q673; obtain ⟨Ao115, co115, eo115⟩ := Kd.R_slice HO_5.out; subst eo115; have p685 : 0 ≤ (((rd_T59 l0_1 x39_2).f1) : Int) := qD; have q685 : ((rd_T59 l0_1 x39_2).f1) < (x5_2.length : Int) := qD; obtain ⟨ad685, e685, hx685_0⟩ := Kd.at_int (Kd.R_reads' HO_5.out).2.2 ((rd_T59 l0_1 x39_2).f1) p685 q685; cases e685; have hn685_0 : ad685.block ≠ gb672 := Kd.own_blk (Kd.R_ne HO_5.out BK672.out (by decide)); have hn685_1 : ad685.block ≠ gb672 := Kd.own_blk (Kd.R_ne HO_5.out BK672.out (by decide)); have hn685_2 : ad685.block ≠ gb672 := Kd.own_blk (Kd.R_ne HO_5.out BK672.out (by decide)); replace hx685_0 := (cell_far (p := ⟨gb672, 0, none⟩) (qA hn685_0) (.int .i64 ((rd_T59 l0_1 x39_2).f0))).trans hx685_0; replace hx685_0 := (cell_far (p := ⟨gb672, 1, none⟩) (qA hn685_1) (.int .i64 ((rd_T59 l0_1 x39_2).f1))).trans hx685_0; replace hx685_0 := (cell_far (p := ⟨gb672, 2, none⟩) (qA hn685_2) (.int .i64 ((rd_T59 l0_1 x39_2).f2))).trans hx685_0; clear hn685_0; clear hn685_1; clear hn685_2; replace p685 := eq_true p685; replace q685 := eq_true q685; have p686 : 0 ≤ (((rd_T59 l0_1 x39_2).f2) : Int) := qD; have q686 : ((rd_T59 l0_1 x39_2).f2) < (x5_2.length : Int) := qD; obtain ⟨ad686, e686, hx686_0⟩ := Kd.at_int (Kd.R_reads' HO_5.out).2.2 ((rd_T59 l0_1 x39_2).f2) p686 q686; obtain rfl : ad685 = ad686 := (by injection e686); have hn686_0 : ad685.block ≠ gb672 := Kd.own_blk (Kd.R_ne HO_5.out BK672.out (by decide)); have hn686_1 : ad685.block ≠ gb672 := Kd.own_blk (Kd.R_ne HO_5.out BK672.out (by decide)); have hn686_2 : ad685.block ≠ gb672 := Kd.own_blk (Kd.R_ne HO_5.out BK672.out (by decide)); have hn686_3 : ad685.block ≠ gb672 := Kd.own_blk (Kd.R_ne HO_5.out BK672.out (by decide)); replace hx686_0 := (cell_far (p := ⟨gb672, 0, none⟩) (qA hn686_0) (.int .i64 ((rd_T59 l0_1 x39_2).f0))).trans hx686_0; replace hx686_0 := (cell_far (p := ⟨gb672, 1, none⟩) (qA hn686_1) (.int .i64 ((rd_T59 l0_1 x39_2).f1))).trans hx686_0; replace hx686_0 := (cell_far (p := ⟨gb672, 2, none⟩) (qA hn686_2) (.int .i64 ((rd_T59 l0_1 x39_2).f2))).trans hx686_0; replace hx686_0 := (cell_far (p := ⟨gb672, 1, none⟩) (qA hn686_3) (.int .i64 (rd x5_2 ((rd_T59 l0_1 x39_2).f1)))).trans hx686_0; clear hn686_0; clear hn686_1; clear hn686_2; clear hn686_3; replace p686 := eq_true p686; replace q686 := eq_true q686))
                       have n0_ : Aside0 (Kd.R Kd.bool 4 (((((w106.setCell ⟨gb672, 0, none⟩ (.int .i64 ((rd_T59 l0_1 x39_2).f0))).setCell ⟨gb672, 1, none⟩ (.int .i64 ((rd_T59 l0_1 x39_2).f1))).setCell ⟨gb672, 2, none⟩ (.int .i64 ((rd_T59 l0_1 x39_2).f2))).setCell ⟨gb672, 1, none⟩ (.int .i64 (rd x5_2 ((rd_T59 l0_1 x39_2).f1)))).setCell ⟨gb672, 2, none⟩ (.int .i64 (rd x5_2 ((rd_T59 l0_1 x39_2).f2)))) w.heap.size (fun _ => True) (.slice (some ad673) t662.length co114) t662) := ⟨by (with_reducible repeat (first | apply Kd.R_alloc | apply Kd.R_drewN | apply Kd.R_drew)); exact Kd.R_mono (Kd.R_far (p := ⟨gb672, 2, none⟩) (Kd.R_far (p := ⟨gb672, 1, none⟩) (Kd.R_far (p := ⟨gb672, 2, none⟩) (Kd.R_far (p := ⟨gb672, 1, none⟩) (Kd.R_far (p := ⟨gb672, 0, none⟩) (Kd.R_types HO_4.out BK672.out (by decide)) (fun _ hk => hk.2) (.int .i64 ((rd_T59 l0_1 x39_2).f0))) (fun _ hk => hk.2) (.int .i64 ((rd_T59 l0_1 x39_2).f1))) (fun _ hk => hk.2) (.int .i64 ((rd_T59 l0_1 x39_2).f2))) (fun _ hk => hk.2) (.int .i64 (rd x5_2 ((rd_T59 l0_1 x39_2).f1)))) (fun _ hk => hk.2) (.int .i64 (rd x5_2 ((rd_T59 l0_1 x39_2).f2)))) (fun _ hk => trivial)⟩
                       have n1_ : Aside0 (Kd.R (Kd.int .i64) 3 (((((w106.setCell ⟨gb672, 0, none⟩ (.int .i64 ((rd_T59 l0_1 x39_2).f0))).setCell ⟨gb672, 1, none⟩ (.int .i64 ((rd_T59 l0_1 x39_2).f1))).setCell ⟨gb672, 2, none⟩ (.int .i64 ((rd_T59 l0_1 x39_2).f2))).setCell ⟨gb672, 1, none⟩ (.int .i64 (rd x5_2 ((rd_T59 l0_1 x39_2).f1)))).setCell ⟨gb672, 2, none⟩ (.int .i64 (rd x5_2 ((rd_T59 l0_1 x39_2).f2)))) w.heap.size (fun _ => True) (.slice (some ad685) x5_2.length co115) x5_2) := ⟨by (with_reducible repeat (first | apply Kd.R_alloc | apply Kd.R_drewN | apply Kd.R_drew)); exact Kd.R_mono (Kd.R_far (p := ⟨gb672, 2, none⟩) (Kd.R_far (p := ⟨gb672, 1, none⟩) (Kd.R_far (p := ⟨gb672, 2, none⟩) (Kd.R_far (p := ⟨gb672, 1, none⟩) (Kd.R_far (p := ⟨gb672, 0, none⟩) (Kd.R_types HO_5.out BK672.out (by decide)) (fun _ hk => hk.2) (.int .i64 ((rd_T59 l0_1 x39_2).f0))) (fun _ hk => hk.2) (.int .i64 ((rd_T59 l0_1 x39_2).f1))) (fun _ hk => hk.2) (.int .i64 ((rd_T59 l0_1 x39_2).f2))) (fun _ hk => hk.2) (.int .i64 (rd x5_2 ((rd_T59 l0_1 x39_2).f1)))) (fun _ hk => hk.2) (.int .i64 (rd x5_2 ((rd_T59 l0_1 x39_2).f2)))) (fun _ hk => trivial)⟩
                       have n2_ : Aside0 (Kd.R k59 59 (((((w106.setCell ⟨gb672, 0, none⟩ (.int .i64 ((rd_T59 l0_1 x39_2).f0))).setCell ⟨gb672, 1, none⟩ (.int .i64 ((rd_T59 l0_1 x39_2).f1))).setCell ⟨gb672, 2, none⟩ (.int .i64 ((rd_T59 l0_1 x39_2).f2))).setCell ⟨gb672, 1, none⟩ (.int .i64 (rd x5_2 ((rd_T59 l0_1 x39_2).f1)))).setCell ⟨gb672, 2, none⟩ (.int .i64 (rd x5_2 ((rd_T59 l0_1 x39_2).f2)))) w.heap.size (fun k_ => k_ ≠ gb672) u670001 x670001_2) := ⟨by (with_reducible repeat (first | apply Kd.R_alloc | apply Kd.R_drewN | apply Kd.R_drew)); exact Kd.R_mono (Kd.R_far (p := ⟨gb672, 2, none⟩) (Kd.R_far (p := ⟨gb672, 1, none⟩) (Kd.R_far (p := ⟨gb672, 2, none⟩) (Kd.R_far (p := ⟨gb672, 1, none⟩) (Kd.R_far (p := ⟨gb672, 0, none⟩) (Kd.R_mono HO_670001.out (fun k_ hk => (⟨hk, hk.2⟩ : _ ∧ k_ ≠ gb672))) (fun _ hk => hk.2) (.int .i64 ((rd_T59 l0_1 x39_2).f0))) (fun _ hk => hk.2) (.int .i64 ((rd_T59 l0_1 x39_2).f1))) (fun _ hk => hk.2) (.int .i64 ((rd_T59 l0_1 x39_2).f2))) (fun _ hk => hk.2) (.int .i64 (rd x5_2 ((rd_T59 l0_1 x39_2).f1)))) (fun _ hk => hk.2) (.int .i64 (rd x5_2 ((rd_T59 l0_1 x39_2).f2)))) (fun _ hk => hk.1.2)⟩
                       have n3_ : Aside0 ((((((w106.setCell ⟨gb672, 0, none⟩ (.int .i64 ((rd_T59 l0_1 x39_2).f0))).setCell ⟨gb672, 1, none⟩ (.int .i64 ((rd_T59 l0_1 x39_2).f1))).setCell ⟨gb672, 2, none⟩ (.int .i64 ((rd_T59 l0_1 x39_2).f2))).setCell ⟨gb672, 1, none⟩ (.int .i64 (rd x5_2 ((rd_T59 l0_1 x39_2).f1)))).setCell ⟨gb672, 2, none⟩ (.int .i64 (rd x5_2 ((rd_T59 l0_1 x39_2).f2)))).heap[gb659]? = some (.cells #[.int .i64 a0_0, .slice (some ad671) l0_1.length c0_1, .slice A0_2 l0_2.length c0_2] 30 (0, 0))) := ⟨by (with_reducible repeat (first | refine blk_drewN ?_ _ | refine blk_drew ?_ | refine blk_alloc ?_ _)); refine blk_far ?_ NB659_672.out _; (with_reducible repeat (first | refine blk_drewN ?_ _ | refine blk_drew ?_ | refine blk_alloc ?_ _)); refine blk_far ?_ NB659_672.out _; (with_reducible repeat (first | refine blk_drewN ?_ _ | refine blk_drew ?_ | refine blk_alloc ?_ _)); refine blk_far ?_ NB659_672.out _; (with_reducible repeat (first | refine blk_drewN ?_ _ | refine blk_drew ?_ | refine blk_alloc ?_ _)); refine blk_far ?_ NB659_672.out _; (with_reducible repeat (first | refine blk_drewN ?_ _ | refine blk_drew ?_ | refine blk_alloc ?_ _)); refine blk_far ?_ NB659_672.out _; exact qK BK659.out⟩
                       have n4_ : Aside0 ((((((w106.setCell ⟨gb672, 0, none⟩ (.int .i64 ((rd_T59 l0_1 x39_2).f0))).setCell ⟨gb672, 1, none⟩ (.int .i64 ((rd_T59 l0_1 x39_2).f1))).setCell ⟨gb672, 2, none⟩ (.int .i64 ((rd_T59 l0_1 x39_2).f2))).setCell ⟨gb672, 1, none⟩ (.int .i64 (rd x5_2 ((rd_T59 l0_1 x39_2).f1)))).setCell ⟨gb672, 2, none⟩ (.int .i64 (rd x5_2 ((rd_T59 l0_1 x39_2).f2)))).heap[gb660]? = some (.cells #[.int .i64 0, .slice none 0 0, .slice none 0 0] 30 (0, 0))) := ⟨by (with_reducible repeat (first | refine blk_drewN ?_ _ | refine blk_drew ?_ | refine blk_alloc ?_ _)); refine blk_far ?_ NB660_672.out _; (with_reducible repeat (first | refine blk_drewN ?_ _ | refine blk_drew ?_ | refine blk_alloc ?_ _)); refine blk_far ?_ NB660_672.out _; (with_reducible repeat (first | refine blk_drewN ?_ _ | refine blk_drew ?_ | refine blk_alloc ?_ _)); refine blk_far ?_ NB660_672.out _; (with_reducible repeat (first | refine blk_drewN ?_ _ | refine blk_drew ?_ | refine blk_alloc ?_ _)); refine blk_far ?_ NB660_672.out _; (with_reducible repeat (first | refine blk_drewN ?_ _ | refine blk_drew ?_ | refine blk_alloc ?_ _)); refine blk_far ?_ NB660_672.out _; exact qK BK660.out⟩
                       have n5_ : Aside0 ((((((w106.setCell ⟨gb672, 0, none⟩ (.int .i64 ((rd_T59 l0_1 x39_2).f0))).setCell ⟨gb672, 1, none⟩ (.int .i64 ((rd_T59 l0_1 x39_2).f1))).setCell ⟨gb672, 2, none⟩ (.int .i64 ((rd_T59 l0_1 x39_2).f2))).setCell ⟨gb672, 1, none⟩ (.int .i64 (rd x5_2 ((rd_T59 l0_1 x39_2).f1)))).setCell ⟨gb672, 2, none⟩ (.int .i64 (rd x5_2 ((rd_T59 l0_1 x39_2).f2)))).heap[gb669]? = some (.cells #[.int .i64 a0_0, u670001, .slice none 0 0] 30 (0, 0))) := ⟨by (with_reducible repeat (first | refine blk_drewN ?_ _ | refine blk_drew ?_ | refine blk_alloc ?_ _)); refine blk_far ?_ NB669_672.out _; (with_reducible repeat (first | refine blk_drewN ?_ _ | refine blk_drew ?_ | refine blk_alloc ?_ _)); refine blk_far ?_ NB669_672.out _; (with_reducible repeat (first | refine blk_drewN ?_ _ | refine blk_drew ?_ | refine blk_alloc ?_ _)); refine blk_far ?_ NB669_672.out _; (with_reducible repeat (first | refine blk_drewN ?_ _ | refine blk_drew ?_ | refine blk_alloc ?_ _)); refine blk_far ?_ NB669_672.out _; (with_reducible repeat (first | refine blk_drewN ?_ _ | refine blk_drew ?_ | refine blk_alloc ?_ _)); refine blk_far ?_ NB669_672.out _; exact qK BK669.out⟩
                       have n6_ : Aside0 ((((((w106.setCell ⟨gb672, 0, none⟩ (.int .i64 ((rd_T59 l0_1 x39_2).f0))).setCell ⟨gb672, 1, none⟩ (.int .i64 ((rd_T59 l0_1 x39_2).f1))).setCell ⟨gb672, 2, none⟩ (.int .i64 ((rd_T59 l0_1 x39_2).f2))).setCell ⟨gb672, 1, none⟩ (.int .i64 (rd x5_2 ((rd_T59 l0_1 x39_2).f1)))).setCell ⟨gb672, 2, none⟩ (.int .i64 (rd x5_2 ((rd_T59 l0_1 x39_2).f2)))).heap[gb672]? = some (.cells #[.int .i64 ((rd_T59 l0_1 x39_2).f0), .int .i64 (rd x5_2 ((rd_T59 l0_1 x39_2).f1)), .int .i64 (rd x5_2 ((rd_T59 l0_1 x39_2).f2))] 59 (0, 0))) := ⟨by (with_reducible repeat (first | refine blk_drewN ?_ _ | refine blk_drew ?_ | refine blk_alloc ?_ _)); refine blk_put (cs := #[.int .i64 ((rd_T59 l0_1 x39_2).f0), .int .i64 (rd x5_2 ((rd_T59 l0_1 x39_2).f1)), .int .i64 ((rd_T59 l0_1 x39_2).f2)]) ?_ 2 _ rfl; refine blk_put (cs := #[.int .i64 ((rd_T59 l0_1 x39_2).f0), .int .i64 ((rd_T59 l0_1 x39_2).f1), .int .i64 ((rd_T59 l0_1 x39_2).f2)]) ?_ 1 _ rfl; refine blk_put (cs := #[.int .i64 ((rd_T59 l0_1 x39_2).f0), .int .i64 ((rd_T59 l0_1 x39_2).f1), .int .i64 0]) ?_ 2 _ rfl; refine blk_put (cs := #[.int .i64 ((rd_T59 l0_1 x39_2).f0), .int .i64 0, .int .i64 0]) ?_ 1 _ rfl; refine blk_put (cs := #[.int .i64 0, .int .i64 0, .int .i64 0]) ?_ 0 _ rfl; exact qK BK672.out⟩
                       have n7_ : Aside0 (Below w.heap.size w (((((w106.setCell ⟨gb672, 0, none⟩ (.int .i64 ((rd_T59 l0_1 x39_2).f0))).setCell ⟨gb672, 1, none⟩ (.int .i64 ((rd_T59 l0_1 x39_2).f1))).setCell ⟨gb672, 2, none⟩ (.int .i64 ((rd_T59 l0_1 x39_2).f2))).setCell ⟨gb672, 1, none⟩ (.int .i64 (rd x5_2 ((rd_T59 l0_1 x39_2).f1)))).setCell ⟨gb672, 2, none⟩ (.int .i64 (rd x5_2 ((rd_T59 l0_1 x39_2).f2))))) := ⟨qB⟩
                       (try clear HO_4)
                       (try clear HO_5)
                       (try clear HO_670001)
                       (try clear BK659)
                       (try clear BK660)
                       (try clear BK669)
                       (try clear BK672)
                       (try clear HB)
                       generalize (((((w106.setCell ⟨gb672, 0, none⟩ (.int .i64 ((rd_T59 l0_1 x39_2).f0))).setCell ⟨gb672, 1, none⟩ (.int .i64 ((rd_T59 l0_1 x39_2).f1))).setCell ⟨gb672, 2, none⟩ (.int .i64 ((rd_T59 l0_1 x39_2).f2))).setCell ⟨gb672, 1, none⟩ (.int .i64 (rd x5_2 ((rd_T59 l0_1 x39_2).f1)))).setCell ⟨gb672, 2, none⟩ (.int .i64 (rd x5_2 ((rd_T59 l0_1 x39_2).f2)))) = w116 at n0_ n1_ n2_ n3_ n4_ n5_ n6_ n7_ ⊢
                       have HO_4 := n0_
                       have HO_5 := n1_
                       have HO_670001 := n2_
                       have BK659 := n3_
                       have BK660 := n4_
                       have BK669 := n5_
                       have BK672 := n6_
                       have HB := n7_
                       clear n0_ n1_ n2_ n3_ n4_ n5_ n6_ n7_
                       have n0_ := Aside0.mk (Kd.R_drew HO_4.out)
                       have n1_ := Aside0.mk (Kd.R_drew HO_5.out)
                       have n2_ := Aside0.mk (Kd.R_drew HO_670001.out)
                       have n3_ := Aside0.mk (blk_drew BK659.out)
                       have n4_ := Aside0.mk (blk_drew BK660.out)
                       have n5_ := Aside0.mk (blk_drew BK669.out)
                       have n6_ := Aside0.mk (blk_drew BK672.out)
                       have n7_ := Aside0.mk (below_drew1 HB.out)
                       clear HO_4
                       clear HO_5
                       clear HO_670001
                       clear BK659
                       clear BK660
                       clear BK669
                       clear BK672
                       clear HB
                       have HO_4 := n0_
                       have HO_5 := n1_
                       have HO_670001 := n2_
                       have BK659 := n3_
                       have BK660 := n4_
                       have BK669 := n5_
                       have BK672 := n6_
                       have HB := n7_
                       clear n0_ n1_ n2_ n3_ n4_ n5_ n6_ n7_
                       obtain ⟨Ao118, co118, eo118⟩ := Kd.R_slice HO_670001.out
                       (first | subst eo118 | (injection eo118 with f1_ f2_ f3_; have f4_ := f1_.symm; have f5_ := f3_.symm; clear f1_ f2_ f3_; subst f4_; subst f5_))
                       refine start_ (n := 9) (S := fun w' => w'.cell? ⟨gb659, 0, none⟩ = some (.int .i64 a0_0) ∧ w'.cell? ⟨gb659, 1, none⟩ = some (.slice (some ad671) l0_1.length c0_1) ∧ w'.cell? ⟨gb659, 2, none⟩ = some (.slice A0_2 l0_2.length c0_2) ∧ w'.cell? ⟨gb669, 0, none⟩ = some (.int .i64 a0_0) ∧ w'.cell? ⟨gb669, 1, none⟩ = some (.slice Ao118 x670001_2.length co118) ∧ w'.cell? ⟨gb669, 2, none⟩ = some (.slice none 0 0)) (ds := [8]) bX33_4 (by kernel_rfl) rfl rfl ⟨(blk_cell BK659.out 0).trans rfl, (blk_cell BK659.out 1).trans rfl, (blk_cell BK659.out 2).trans rfl, (blk_cell BK669.out 0).trans rfl, (blk_cell BK669.out 1).trans rfl, (blk_cell BK669.out 2).trans rfl⟩ (fun hHeld => ?_); refine with_tabW impl_PruneCircuit.tab17 impl_PruneCircuit.bits17 (fun HT_ HW_ => ?_)
                       generalize w116.drew = w117 at HO_4 HO_5 HO_670001 BK659 BK660 BK669 BK672 HB hHeld ⊢
                       refine pure_ (i := 0) (N := some 70) (v := ?_) (a' := ?_) bX33_5 rfl rfl (any_of HT_.out (by kernel_rfl)) (fun _ _ _ h => h) (Or.inl ⟨by rfl, ?_⟩) ?_ ?_
                       rotate_left
                       ·intro w'
                        go_simp
                        with_reducible rfl
                       rotate_left
                       ·simp only [Act.put, List.setIfInBounds_toArray, List.set_cons_zero, List.set_cons_succ, i64_w, i32_w]
                        rfl
                       refine pure_ (i := 1) (N := some 71) (v := ?_) (a' := ?_) bX33_6 rfl rfl (any_of HT_.out (by kernel_rfl)) (fun _ _ _ h => h) (Or.inl ⟨by rfl, ?_⟩) ?_ ?_
                       rotate_left
                       ·intro w'
                        go_simp
                        with_reducible rfl
                       rotate_left
                       ·simp only [Act.put, List.setIfInBounds_toArray, List.set_cons_zero, List.set_cons_succ, i64_w, i32_w]
                        rfl
                       refine pure_ (i := 3) (N := some 73) (v := ?_) (a' := ?_) bX33_7 rfl rfl (any_of HT_.out (by kernel_rfl)) (fun _ _ _ h => h) (Or.inl ⟨by rfl, ?_⟩) ?_ ?_
                       rotate_left
                       ·intro w'
                        go_simp
                        with_reducible rfl
                       rotate_left
                       ·simp only [Act.put, List.setIfInBounds_toArray, List.set_cons_zero, List.set_cons_succ, i64_w, i32_w]
                        rfl
                       refine take_ (i := 2) (N := some 72) (v := ?_) (a' := ?_) bX33_8 rfl rfl (take_ofW HT_.out HW_.out (by kernel_rfl)) (fun _ _ _ h => h) (Or.inl ⟨by rfl, ?_⟩) hHeld ?_ ?_
                       rotate_left
                       ·rintro w' ⟨s0, s1, s2, s3, s4, s5⟩
                        go_simp
                        with_reducible rfl
                       rotate_left
                       ·simp only [Act.put, List.setIfInBounds_toArray, List.set_cons_zero, List.set_cons_succ, i64_w, i32_w]
                        rfl
                       refine pure_ (i := 4) (N := some 74) (v := ?_) (a' := ?_) bX33_9 rfl rfl (any_of HT_.out (by kernel_rfl)) (fun _ _ _ h => h) (Or.inl ⟨by rfl, ?_⟩) ?_ ?_
                       rotate_left
                       ·intro w'
                        go_simp
                        with_reducible rfl
                       rotate_left
                       ·simp only [Act.put, List.setIfInBounds_toArray, List.set_cons_zero, List.set_cons_succ, i64_w, i32_w]
                        rfl
                       refine take_ (i := 5) (N := some 75) (v := ?_) (a' := ?_) bX33_10 rfl rfl (take_ofW HT_.out HW_.out (by kernel_rfl)) (fun _ _ _ h => h) (Or.inl ⟨by rfl, ?_⟩) hHeld ?_ ?_
                       rotate_left
                       ·rintro w' ⟨s0, s1, s2, s3, s4, s5⟩
                        go_simp
                        with_reducible rfl
                       rotate_left
                       ·simp only [Act.put, List.setIfInBounds_toArray, List.set_cons_zero, List.set_cons_succ, i64_w, i32_w]
                        rfl
                       refine one_ (i := 6) (N := some 76) bX33_11 rfl rfl (one_of HT_.out (by kernel_rfl)) (by decide) (fun K hK => ?_)
                       refine goes_ Try.func49 (by kernel_rfl) rfl #[.agg #[.int .i64 a0_0, .slice Ao118 x670001_2.length co118, .slice none 0 0]] (by rfl) rfl rfl qG ?_
                       refine (impl_Circuit_wires.calls a0_0 _ _ x670001_2 _ _ ([] : List Int) t687 _ ?side1 ?side2 ?side3 ?side4 A102.out).mono ?_
                       (case side1 => repeat (first | exact (Kd.R_reads' HO_670001.out).2.2 | (with_reducible refine Kd.C_alloc ?_ _) | (with_reducible refine Kd.C_drewN ?_ _) | (with_reducible refine Kd.C_drew ?_)))
                       (case side2 => exact (Kd.R_reads' HO_670001.out).2.1)
                       (case side3 => exact Kd.C_nil _ _)
                       (case side4 => exact Nat.le_refl _)
                       rintro e w119 ⟨rfl, hb⟩
                       refine ⟨_, rfl, ?_⟩
                       have n0_ := Aside0.mk (Kd.R_below (qR HO_4.out) hb)
                       have n1_ := Aside0.mk (Kd.R_below (qR HO_5.out) hb)
                       have n2_ := Aside0.mk (Kd.R_below (qR HO_670001.out) hb)
                       have n3_ := Aside0.mk (blk_below (g := gb659) (o := .cells #[.int .i64 a0_0, .slice (some ad671) l0_1.length c0_1, .slice A0_2 l0_2.length c0_2] 30 (0, 0)) (qK BK659.out) hb)
                       have n4_ := Aside0.mk (blk_below (g := gb660) (o := .cells #[.int .i64 0, .slice none 0 0, .slice none 0 0] 30 (0, 0)) (qK BK660.out) hb)
                       have n5_ := Aside0.mk (blk_below (g := gb669) (o := .cells #[.int .i64 a0_0, .slice Ao118 x670001_2.length co118, .slice none 0 0] 30 (0, 0)) (qK BK669.out) hb)
                       have n6_ := Aside0.mk (blk_below (g := gb672) (o := .cells #[.int .i64 ((rd_T59 l0_1 x39_2).f0), .int .i64 (rd x5_2 ((rd_T59 l0_1 x39_2).f1)), .int .i64 (rd x5_2 ((rd_T59 l0_1 x39_2).f2))] 59 (0, 0)) (qK BK672.out) hb)
                       have n7_ := Aside0.mk (below_step (qB) hb)
                       clear HO_4
                       clear HO_5
                       clear HO_670001
                       clear BK659
                       clear BK660
                       clear BK669
                       clear BK672
                       clear HB
                       have HO_4 := n0_
                       have HO_5 := n1_
                       have HO_670001 := n2_
                       have BK659 := n3_
                       have BK660 := n4_
                       have BK669 := n5_
                       have BK672 := n6_
                       have HB := n7_
                       clear n0_ n1_ n2_ n3_ n4_ n5_ n6_ n7_
                       (try clear hb)
                       (try clear hb2)
                       (try clear hk)
                       (try clear hi)
                       have p104 : 0 ≤ ((ji37) : Int) := qD
                       have q104 : ((ji37) : Int) < ((x5_2.length : Int) : Int) := qD
                       obtain ⟨go104, co104, eo104, gb104, gl104, cl104, HG104⟩ := Kd.R_form HO_5.out (by omega)
                       (first | cases eo104 | (injection eo104 with ea_ en_ ec_; (first | subst ea_ | (injection ea_ with ea_; subst ea_)); subst ec_; clear en_))
                       have GB104 := Aside0.mk gb104
                       have GG104 := Aside0.mk HG104
                       clear gb104 gl104 HG104
                       (first | simp only [add_plain] at hx685_0 | skip)
                       (first | simp only [add_plain] at hx686_0 | skip)
                       obtain ⟨hx104_0, hf104_0⟩ := Kd.R_celln 0 HO_5.out ((ji37) : Int) p104 q104
                       replace p104 := eq_true p104
                       replace q104 := eq_true q104
                       have HP120 := Kd.R_putn HO_5.out ((ji37) : Int) t687
                       rw [← Ny688.out] at HP120
                       have HQ120 := Aside0.mk HP120
                       clear HP120
                       refine hK.out _ _ ⟨(blk_cell BK659.out 0).trans rfl, (blk_cell BK659.out 1).trans rfl, (blk_cell BK659.out 2).trans rfl, (blk_cell BK669.out 0).trans rfl, (blk_cell BK669.out 1).trans rfl, (blk_cell BK669.out 2).trans rfl⟩ (fun hHeld => ?_)
                       clear hK K
                       refine norm_ (a' := ?_) ?_ ?_
                       rotate_left
                       ·show Act.put _ (some 76) _ = _
                        simp only [Act.put, List.setIfInBounds_toArray, List.set_cons_zero, List.set_cons_succ, i64_w, i32_w]
                        rfl
                       refine pure_ (i := 7) (N := some 77) (v := ?_) (a' := ?_) bX33_12 rfl rfl (any_of HT_.out (by kernel_rfl)) (fun _ _ _ h => h) (Or.inl ⟨by rfl, ?_⟩) ?_ ?_
                       rotate_left
                       ·intro w'
                        go_simp
                        with_reducible rfl
                       rotate_left
                       ·simp only [Act.put, List.setIfInBounds_toArray, List.set_cons_zero, List.set_cons_succ, i64_w, i32_w]
                        rfl
                       refine last_ (i := 8) (N := none) bX33_13 rfl rfl (one_of HT_.out (by kernel_rfl)) (by decide) (fun K hK => ?_)
                       refine skip_ (w1 := ?_) (by rfl) rfl ?_ ?_
                       rotate_left
                       ·go_simp
                        rfl
                       refine hK.out _ _ ?_
                       clear hK K
                       refine done_ (done_of HT_.out (by kernel_rfl)) ?_
                       have n0_ : Aside0 (Kd.R Kd.bool 4 (w119.setCell ⟨go104, ((ji37) : Int).toNat, none⟩ (.int .i64 t687)) w.heap.size (fun _ => True) (.slice (some ad673) t662.length co114) t662) := ⟨by (with_reducible repeat (first | apply Kd.R_alloc | apply Kd.R_drewN | apply Kd.R_drew)); exact Kd.R_mono (Kd.R_far (p := ⟨go104, ((ji37) : Int).toNat, none⟩) (Kd.R_types HO_4.out GG104.out (by decide)) (fun _ hk => hk.2) (.int .i64 t687)) (fun _ hk => trivial)⟩
                       have n1_ : Aside0 (Kd.R (Kd.int .i64) 3 (w119.setCell ⟨go104, ((ji37) : Int).toNat, none⟩ (.int .i64 t687)) w.heap.size (fun _ => True) (.slice (some ⟨go104, 0, none⟩) x5_2.length co115) y688) := ⟨qR HQ120.out⟩
                       have n2_ : Aside0 (Kd.R k59 59 (w119.setCell ⟨go104, ((ji37) : Int).toNat, none⟩ (.int .i64 t687)) w.heap.size (fun k_ => k_ ≠ gb672) (.slice Ao118 x670001_2.length co118) x670001_2) := ⟨by (with_reducible repeat (first | apply Kd.R_alloc | apply Kd.R_drewN | apply Kd.R_drew)); exact Kd.R_mono (Kd.R_far (p := ⟨go104, ((ji37) : Int).toNat, none⟩) (Kd.R_types HO_670001.out GG104.out (by decide)) (fun _ hk => hk.2) (.int .i64 t687)) (fun _ hk => hk.1)⟩
                       have n3_ : Aside0 ((w119.setCell ⟨go104, ((ji37) : Int).toNat, none⟩ (.int .i64 t687)).heap[gb659]? = some (.cells #[.int .i64 a0_0, .slice (some ad671) l0_1.length c0_1, .slice A0_2 l0_2.length c0_2] 30 (0, 0))) := ⟨by (with_reducible repeat (first | refine blk_drewN ?_ _ | refine blk_drew ?_ | refine blk_alloc ?_ _)); refine blk_far ?_ (by have h_ := Kd.R_ne HO_5.out BK659.out (by decide); intro e_; exact h_ (by rw [e_]; rfl)) _; exact qK BK659.out⟩
                       have n4_ : Aside0 ((w119.setCell ⟨go104, ((ji37) : Int).toNat, none⟩ (.int .i64 t687)).heap[gb660]? = some (.cells #[.int .i64 0, .slice none 0 0, .slice none 0 0] 30 (0, 0))) := ⟨by (with_reducible repeat (first | refine blk_drewN ?_ _ | refine blk_drew ?_ | refine blk_alloc ?_ _)); refine blk_far ?_ (by have h_ := Kd.R_ne HO_5.out BK660.out (by decide); intro e_; exact h_ (by rw [e_]; rfl)) _; exact qK BK660.out⟩
                       have n5_ : Aside0 ((w119.setCell ⟨go104, ((ji37) : Int).toNat, none⟩ (.int .i64 t687)).heap[gb669]? = some (.cells #[.int .i64 a0_0, .slice Ao118 x670001_2.length co118, .slice none 0 0] 30 (0, 0))) := ⟨by (with_reducible repeat (first | refine blk_drewN ?_ _ | refine blk_drew ?_ | refine blk_alloc ?_ _)); refine blk_far ?_ (by have h_ := Kd.R_ne HO_5.out BK669.out (by decide); intro e_; exact h_ (by rw [e_]; rfl)) _; exact qK BK669.out⟩
                       have n6_ : Aside0 ((w119.setCell ⟨go104, ((ji37) : Int).toNat, none⟩ (.int .i64 t687)).heap[gb672]? = some (.cells #[.int .i64 ((rd_T59 l0_1 x39_2).f0), .int .i64 (rd x5_2 ((rd_T59 l0_1 x39_2).f1)), .int .i64 (rd x5_2 ((rd_T59 l0_1 x39_2).f2))] 59 (0, 0))) := ⟨by (with_reducible repeat (first | refine blk_drewN ?_ _ | refine blk_drew ?_ | refine blk_alloc ?_ _)); refine blk_far ?_ (by have h_ := Kd.R_ne HO_5.out BK672.out (by decide); intro e_; exact h_ (by rw [e_]; rfl)) _; exact qK BK672.out⟩
                       have n7_ : Aside0 (Below w.heap.size w (w119.setCell ⟨go104, ((ji37) : Int).toNat, none⟩ (.int .i64 t687))) := ⟨by repeat (first | (with_reducible first | exact HB.out | apply below_alloc | apply pw_below_drewN | apply below_drew1 | refine below_set ?_ GB104.out | refine below_set ?_ GE659.out | refine below_set ?_ GE660.out | refine below_set ?_ GE669.out | refine below_set ?_ GE672.out) | exact HB.out)⟩
                       (try clear HO_4)
                       (try clear HO_5)
                       (try clear HO_670001)
                       (try clear BK659)
                       (try clear BK660)
                       (try clear BK669)
                       (try clear BK672)
                       (try clear HB)
                       generalize (w119.setCell ⟨go104, ((ji37) : Int).toNat, none⟩ (.int .i64 t687)) = w121 at n0_ n1_ n2_ n3_ n4_ n5_ n6_ n7_ ⊢
                       have HO_4 := n0_
                       have HO_5 := n1_
                       have HO_670001 := n2_
                       have BK659 := n3_
                       have BK660 := n4_
                       have BK669 := n5_
                       have BK672 := n6_
                       have HB := n7_
                       clear n0_ n1_ n2_ n3_ n4_ n5_ n6_ n7_
                       have hnb122 := NB669_660.out
                       have hnc122 := NB660_669.out
                       have hcz123_0 : w121.cell? ⟨gb669, 0, none⟩ = some (.int .i64 a0_0) := (blk_cell BK669.out 0).trans rfl
                       have hcz123_1 : w121.cell? ⟨gb669, 1, none⟩ = some (.slice Ao118 x670001_2.length co118) := (blk_cell BK669.out 1).trans rfl
                       have hcz123_2 : w121.cell? ⟨gb669, 2, none⟩ = some (.slice none 0 0) := (blk_cell BK669.out 2).trans rfl
                       have hfz123_0 := blk_frozen BK669.out 0
                       have hfz123_1 := blk_frozen BK669.out 1
                       have hfz123_2 := blk_frozen BK669.out 2
                       have hcz124_0 : w121.cell? ⟨gb672, 0, none⟩ = some (.int .i64 ((rd_T59 l0_1 x39_2).f0)) := (blk_cell BK672.out 0).trans rfl
                       have hcz124_1 : w121.cell? ⟨gb672, 1, none⟩ = some (.int .i64 (rd x5_2 ((rd_T59 l0_1 x39_2).f1))) := (blk_cell BK672.out 1).trans rfl
                       have hcz124_2 : w121.cell? ⟨gb672, 2, none⟩ = some (.int .i64 (rd x5_2 ((rd_T59 l0_1 x39_2).f2))) := (blk_cell BK672.out 2).trans rfl
                       have hfz124_0 := blk_frozen BK672.out 0
                       have hfz124_1 := blk_frozen BK672.out 1
                       have hfz124_2 := blk_frozen BK672.out 2
                       try go_wp2_with (first | ((with_reducible refine gate_builtin (b := .append) (xs := #[.tmp 79, .tmp 81]) rfl ?_); at_builtin; refine Kd.R_append k59 (w0 := w) w.heap.size rfl (.tmp 79) (.tmp 81) 28 59 (.agg #[(.int .i64 0), (.int .i64 0), (.int .i64 0)]) 24 rfl Try.underlying28 info59 rfl (by decide) (by omega) (.slice Ao118 x670001_2.length co118) x670001_2 (⟨(rd_T59 l0_1 x39_2).f0, rd x5_2 ((rd_T59 l0_1 x39_2).f1), rd x5_2 ((rd_T59 l0_1 x39_2).f2)⟩ : S59) [.int .i64 ((rd_T59 l0_1 x39_2).f0), .int .i64 (rd x5_2 ((rd_T59 l0_1 x39_2).f1)), .int .i64 (rd x5_2 ((rd_T59 l0_1 x39_2).f2))] (fun k_ => k_ ≠ gb672) (fun _ => False) rfl rfl ?aP (fun _ hk => hk.elim) ?aF ?aO ?aB ?aS ?aL ?_; (case aP => exact k59_mkM _ _ _ (⟨(rd_T59 l0_1 x39_2).f0, rd x5_2 ((rd_T59 l0_1 x39_2).f1), rd x5_2 ((rd_T59 l0_1 x39_2).f2)⟩ : S59)); (case aB => exact (qB)); (case aF => exact (fun k_ hk => Kd.freshB (g := gb672) (o := .cells #[.int .i64 ((rd_T59 l0_1 x39_2).f0), .int .i64 (rd x5_2 ((rd_T59 l0_1 x39_2).f1)), .int .i64 (rd x5_2 ((rd_T59 l0_1 x39_2).f2))] 59 (0, 0)) (qK BK672.out) k_ hk)); (case aO => exact (qR HO_670001.out)); (case aS => exact (below_size (qB))); (case aL => have := LMc105.out; omega); intro v690 w125 ho hb hg hat; rw [← Ny689.out] at ho; have n0_ := Aside0.mk (Kd.R_over' (qR HO_4.out) (Kd.R_typed (qR HO_670001.out)) (by decide) hg); have n1_ := Aside0.mk (Kd.R_over' (qR HO_5.out) (Kd.R_typed (qR HO_670001.out)) (by decide) hg); have n2_ := Aside0.mk (blk_grown (g := gb659) (o := .cells #[.int .i64 a0_0, .slice (some ad671) l0_1.length c0_1, .slice A0_2 l0_2.length c0_2] 30 (0, 0)) (qK BK659.out) hg (Kd.R_ne HO_670001.out BK659.out (by decide))); have n3_ := Aside0.mk (blk_grown (g := gb660) (o := .cells #[.int .i64 0, .slice none 0 0, .slice none 0 0] 30 (0, 0)) (qK BK660.out) hg (Kd.R_ne HO_670001.out BK660.out (by decide))); have n4_ := Aside0.mk (blk_grown (g := gb669) (o := .cells #[.int .i64 a0_0, .slice Ao118 x670001_2.length co118, .slice none 0 0] 30 (0, 0)) (qK BK669.out) hg (Kd.R_ne HO_670001.out BK669.out (by decide))); have n5_ := Aside0.mk (blk_grown (g := gb672) (o := .cells #[.int .i64 ((rd_T59 l0_1 x39_2).f0), .int .i64 (rd x5_2 ((rd_T59 l0_1 x39_2).f1)), .int .i64 (rd x5_2 ((rd_T59 l0_1 x39_2).f2))] 59 (0, 0)) (qK BK672.out) hg (Kd.R_away HO_670001.out (fun _ hk => hk))); have n6_ := Aside0.mk (hb); have n7_ := Aside0.mk (ho); clear HO_4; clear HO_5; clear BK659; clear BK660; clear BK669; clear BK672; clear HB; clear HO_670001; have HO_4 := n0_; have HO_5 := n1_; have BK659 := n2_; have BK660 := n3_; have BK669 := n4_; have BK672 := n5_; have HB := n6_; have HO691 := n7_; clear n0_ n1_ n2_ n3_ n4_ n5_ n6_ n7_; clear ho hb hg hat; obtain ⟨Ao126, co126, eo126⟩ := Kd.R_slice HO691.out; subst eo126; have hcz127_0 : w125.cell? ⟨gb669, 0, none⟩ = some (.int .i64 a0_0) := (blk_cell BK669.out 0).trans rfl; have hcz127_1 : w125.cell? ⟨gb669, 1, none⟩ = some (.slice Ao118 x670001_2.length co118) := (blk_cell BK669.out 1).trans rfl; have hcz127_2 : w125.cell? ⟨gb669, 2, none⟩ = some (.slice none 0 0) := (blk_cell BK669.out 2).trans rfl; have hfz127_0 := blk_frozen BK669.out 0; have hfz127_1 := blk_frozen BK669.out 1; have hfz127_2 := blk_frozen BK669.out 2))
                       go_roundg k2
                       case measure => have := HK1.out; have := HK2.out; omega
                       case rel => exact ⟨(y688), (wrap64 (x39_2 + 1)), (y689), (.slice Ao126 y689.length co126), qS, H', ⟨by have := HK1.out; have := HK2.out; omega⟩, ⟨by (with_reducible repeat (first | apply Kd.R_alloc | apply Kd.R_drewN | apply Kd.R_drew)); exact Kd.R_mono (Kd.R_far (p := ⟨gb669, 1, none⟩) (Kd.R_types HO_4.out BK669.out (by decide)) (fun _ hk => hk.2) (.slice Ao126 y689.length co126)) (fun _ hk => trivial)⟩, ⟨by (with_reducible repeat (first | apply Kd.R_alloc | apply Kd.R_drewN | apply Kd.R_drew)); exact Kd.R_mono (Kd.R_far (p := ⟨gb669, 1, none⟩) (Kd.R_types HO_5.out BK669.out (by decide)) (fun _ hk => hk.2) (.slice Ao126 y689.length co126)) (fun _ hk => trivial)⟩, ⟨by (with_reducible repeat (first | apply Kd.R_alloc | apply Kd.R_drewN | apply Kd.R_drew)); exact Kd.R_mono (Kd.R_far (p := ⟨gb669, 1, none⟩) (Kd.R_types HO691.out BK669.out (by decide)) (fun _ hk => hk.2) (.slice Ao126 y689.length co126)) (fun _ hk => trivial)⟩, ⟨by (with_reducible repeat (first | refine blk_drewN ?_ _ | refine blk_drew ?_ | refine blk_alloc ?_ _)); refine blk_far ?_ NB659_669.out _; exact qK BK659.out⟩, ⟨by (with_reducible repeat (first | refine blk_drewN ?_ _ | refine blk_drew ?_ | refine blk_alloc ?_ _)); refine blk_far ?_ NB660_669.out _; exact qK BK660.out⟩, ⟨by (with_reducible repeat (first | refine blk_drewN ?_ _ | refine blk_drew ?_ | refine blk_alloc ?_ _)); refine blk_put (cs := #[.int .i64 a0_0, .slice Ao118 x670001_2.length co118, .slice none 0 0]) ?_ 1 _ rfl; exact qK BK669.out⟩, ⟨qB⟩⟩
                      ·rw [if_neg c105] at H
                       exact absurd H (by simp)
                     ·rw [if_neg c103] at H
                      exact absurd H (by simp)
                    ·rw [if_neg c101] at H
                     exact absurd H (by simp)
                   ·rw [if_neg c100] at H
                    exact absurd H (by simp)
                  ·rw [if_neg c99] at H
                   have c99b0 : decide (2 < ((rd_T59 l0_1 x39_2).f0)) = false := decide_eq_false c99
                   clear c99
                   replace H := Option.bind_eq_some_iff.mp H
                   obtain ⟨t692, A1280, H⟩ := H
                   replace H : (if (ji37) < (x5_2.length : Int) then (if x670001_2.length < 5864062014805 then (impl_PruneCircuit.l1 k2 t662 (x5_2.set ((ji37) : Int).toNat t692) l0_1 (l0_1.length : Int) (wrap64 (x39_2 + 1)) a0_0 l0_1 l0_2 a0_0 (x670001_2 ++ [(⟨(rd_T59 l0_1 x39_2).f0, rd x5_2 ((rd_T59 l0_1 x39_2).f1), (rd_T59 l0_1 x39_2).f2⟩ : S59)])) else (none)) else (none)) = some (r1, r2, r3, r4) := H
                   have A128 := Aside0.mk A1280
                   clear A1280
                   by_cases c129 : (ji37) < (x5_2.length : Int)
                   ·rw [if_pos c129] at H
                    have c129b0 : decide ((ji37) < (x5_2.length : Int)) = true := decide_eq_true c129
                    clear c129
                    obtain ⟨y693, hy693⟩ : ∃ y_ : List Int, y_ = (x5_2.set ((ji37) : Int).toNat t692) := ⟨_, rfl⟩
                    replace H : (if x670001_2.length < 5864062014805 then (impl_PruneCircuit.l1 k2 t662 y693 l0_1 (l0_1.length : Int) (wrap64 (x39_2 + 1)) a0_0 l0_1 l0_2 a0_0 (x670001_2 ++ [(⟨(rd_T59 l0_1 x39_2).f0, rd x5_2 ((rd_T59 l0_1 x39_2).f1), (rd_T59 l0_1 x39_2).f2⟩ : S59)])) else (none)) = some (r1, r2, r3, r4) := qY hy693 H
                    have Ny693 := Aside0.mk hy693
                    clear hy693
                    by_cases c131 : x670001_2.length < 5864062014805
                    ·rw [if_pos c131] at H
                     have LMc131 := Aside0.mk c131
                     clear c131
                     obtain ⟨y694, hy694⟩ : ∃ y_ : List (S59), y_ = (x670001_2 ++ [(⟨(rd_T59 l0_1 x39_2).f0, rd x5_2 ((rd_T59 l0_1 x39_2).f1), (rd_T59 l0_1 x39_2).f2⟩ : S59)]) := ⟨_, rfl⟩
                     replace H : (impl_PruneCircuit.l1 k2 t662 y693 l0_1 (l0_1.length : Int) (wrap64 (x39_2 + 1)) a0_0 l0_1 l0_2 a0_0 y694) = some (r1, r2, r3, r4) := qY hy694 H
                     have Ny694 := Aside0.mk hy694
                     clear hy694
                     have H' := Aside0.mk H
                     clear H
                     have p671 : 0 ≤ (x39_2 : Int) := qD
                     have q671 : x39_2 < (l0_1.length : Int) := qD
                     obtain ⟨ad671, e671, hx671_0, hx671_1, hx671_2⟩ := at_T59 HR0_1.out x39_2 p671 q671
                     cases e671
                     replace hx671_0 := (HB.out.cell (World.block_lt_of_cell? w _ hx671_0)).trans hx671_0
                     replace hx671_1 := (HB.out.cell (World.block_lt_of_cell? w _ hx671_1)).trans hx671_1
                     replace hx671_2 := (HB.out.cell (World.block_lt_of_cell? w _ hx671_2)).trans hx671_2
                     replace p671 := eq_true p671
                     replace q671 := eq_true q671
                     try go_wp2_with (first | ((with_reducible refine gate_dst (N := 9) rfl ?_); refine box_event ?hg (N := 9) ?hd (cs := #[.int .i64 0, .int .i64 0, .int .i64 0]) (t := 59) ?hr ?_; (case hd => rfl); (case hg => rfl); (case hr => first | (go_simp; done) | (go_simp; rfl)); intro gb672 hg w132 hbox hb; have n0_ := Aside0.mk (Kd.R_below (qR HO_4.out) hb); have n1_ := Aside0.mk (Kd.R_below (qR HO_5.out) hb); have n2_ := Aside0.mk (Kd.R_below (Kd.R_elderB (qR HO_670001.out) gb672 (Nat.le_of_eq hg.symm)) hb); have n3_ := Aside0.mk (blk_below (g := gb659) (o := .cells #[.int .i64 a0_0, .slice (some ad671) l0_1.length c0_1, .slice A0_2 l0_2.length c0_2] 30 (0, 0)) (qK BK659.out) hb); have n4_ := Aside0.mk (blk_below (g := gb660) (o := .cells #[.int .i64 0, .slice none 0 0, .slice none 0 0] 30 (0, 0)) (qK BK660.out) hb); have n5_ := Aside0.mk (blk_below (g := gb669) (o := .cells #[.int .i64 a0_0, u670001, .slice none 0 0] 30 (0, 0)) (qK BK669.out) hb); have n6_ := Aside0.mk (below_step (qB) hb); have n7_ := Aside0.mk (hbox); have n8_ := Aside0.mk ((by rw [hg]; exact (below_size (qB)) : w.heap.size ≤ gb672)); have n9_ := Aside0.mk ((by rw [hg]; exact (below_size (qB)) : w.heap.size ≤ gb672)); have n10_ := Aside0.mk ((by rw [hg]; exact Nat.ne_of_lt (blk_lt (g := gb659) (o := .cells #[.int .i64 a0_0, .slice (some ad671) l0_1.length c0_1, .slice A0_2 l0_2.length c0_2] 30 (0, 0)) (qK BK659.out)) : gb659 ≠ gb672)); have n11_ := Aside0.mk ((by rw [hg]; exact Nat.ne_of_gt (blk_lt (g := gb659) (o := .cells #[.int .i64 a0_0, .slice (some ad671) l0_1.length c0_1, .slice A0_2 l0_2.length c0_2] 30 (0, 0)) (qK BK659.out)) : gb672 ≠ gb659)); have n12_ := Aside0.mk ((by rw [hg]; exact Nat.ne_of_lt (blk_lt (g := gb660) (o := .cells #[.int .i64 0, .slice none 0 0, .slice none 0 0] 30 (0, 0)) (qK BK660.out)) : gb660 ≠ gb672)); have n13_ := Aside0.mk ((by rw [hg]; exact Nat.ne_of_gt (blk_lt (g := gb660) (o := .cells #[.int .i64 0, .slice none 0 0, .slice none 0 0] 30 (0, 0)) (qK BK660.out)) : gb672 ≠ gb660)); have n14_ := Aside0.mk ((by rw [hg]; exact Nat.ne_of_lt (blk_lt (g := gb669) (o := .cells #[.int .i64 a0_0, u670001, .slice none 0 0] 30 (0, 0)) (qK BK669.out)) : gb669 ≠ gb672)); have n15_ := Aside0.mk ((by rw [hg]; exact Nat.ne_of_gt (blk_lt (g := gb669) (o := .cells #[.int .i64 a0_0, u670001, .slice none 0 0] 30 (0, 0)) (qK BK669.out)) : gb672 ≠ gb669)); clear HO_4; clear HO_5; clear HO_670001; clear BK659; clear BK660; clear BK669; clear HB; have HO_4 := n0_; have HO_5 := n1_; have HO_670001 := n2_; have BK659 := n3_; have BK660 := n4_; have BK669 := n5_; have HB := n6_; have BK672 := n7_; have GW672 := n8_; have GE672 := n9_; have NB659_672 := n10_; have NB672_659 := n11_; have NB660_672 := n12_; have NB672_660 := n13_; have NB669_672 := n14_; have NB672_669 := n15_; clear n0_ n1_ n2_ n3_ n4_ n5_ n6_ n7_ n8_ n9_ n10_ n11_ n12_ n13_ n14_ n15_; clear hb hbox hg; have hnb133 := NB672_659.out; have hnc133 := NB659_672.out; have hnb134 := NB672_660.out; have hnc134 := NB660_672.out; have hnb135 := NB672_669.out; have hnc135 := NB669_672.out; have hcz136_0 : w132.cell? ⟨gb672, 0, none⟩ = some (.int .i64 0) := (blk_cell BK672.out 0).trans rfl; have hcz136_1 : w132.cell? ⟨gb672, 1, none⟩ = some (.int .i64 0) := (blk_cell BK672.out 1).trans rfl; have hcz136_2 : w132.cell? ⟨gb672, 2, none⟩ = some (.int .i64 0) := (blk_cell BK672.out 2).trans rfl; have hfz136_0 := blk_frozen BK672.out 0; have hfz136_1 := blk_frozen BK672.out 1; have hfz136_2 := blk_frozen BK672.out 2; have hnb137 := NB659_660.out; have hnc137 := NB660_659.out; have hnb138 := NB659_669.out; have hnc138 := NB669_659.out; have hcz139_0 : w132.cell? ⟨gb659, 0, none⟩ = some (.int .i64 a0_0) := (blk_cell BK659.out 0).trans rfl; have hcz139_1 : w132.cell? ⟨gb659, 1, none⟩ = some (.slice (some ad671) l0_1.length c0_1) := (blk_cell BK659.out 1).trans rfl; have hcz139_2 : w132.cell? ⟨gb659, 2, none⟩ = some (.slice A0_2 l0_2.length c0_2) := (blk_cell BK659.out 2).trans rfl; have hfz139_0 := blk_frozen BK659.out 0; have hfz139_1 := blk_frozen BK659.out 1; have hfz139_2 := blk_frozen BK659.out 2; obtain ⟨Ao140, co140, eo140⟩ := Kd.R_slice HO_4.out; subst eo140; have p673 : 0 ≤ ((ji37) : Int) := qD; have q673 : (ji37) < (t662.length : Int) := qD; obtain ⟨ad673, e673, hx673_0⟩ := Kd.at_bool (Kd.R_reads' HO_4.out).2.2 (ji37) p673 q673; (try rw [← Nbq40.out] at hx673_0); cases e673; have hn673_0 : ad673.block ≠ gb672 := Kd.own_blk (Kd.R_ne HO_4.out BK672.out (by decide)); have hn673_1 : ad673.block ≠ gb672 := Kd.own_blk (Kd.R_ne HO_4.out BK672.out (by decide)); have hn673_2 : ad673.block ≠ gb672 := Kd.own_blk (Kd.R_ne HO_4.out BK672.out (by decide)); replace hx673_0 := (cell_far (p := ⟨gb672, 0, none⟩) (qA hn673_0) (.int .i64 ((rd_T59 l0_1 x39_2).f0))).trans hx673_0; replace hx673_0 := (cell_far (p := ⟨gb672, 1, none⟩) (qA hn673_1) (.int .i64 ((rd_T59 l0_1 x39_2).f1))).trans hx673_0; replace hx673_0 := (cell_far (p := ⟨gb672, 2, none⟩) (qA hn673_2) (.int .i64 ((rd_T59 l0_1 x39_2).f2))).trans hx673_0; clear hn673_0; clear hn673_1; clear hn673_2; replace p673 := eq_true p673; replace q673 := eq_true q673; obtain ⟨Ao141, co141, eo141⟩ := Kd.R_slice HO_5.out; subst eo141; have p685 : 0 ≤ (((rd_T59 l0_1 x39_2).f1) : Int) := qD; have q685 : ((rd_T59 l0_1 x39_2).f1) < (x5_2.length : Int) := qD; obtain ⟨ad685, e685, hx685_0⟩ := Kd.at_int (Kd.R_reads' HO_5.out).2.2 ((rd_T59 l0_1 x39_2).f1) p685 q685; cases e685; have hn685_0 : ad685.block ≠ gb672 := Kd.own_blk (Kd.R_ne HO_5.out BK672.out (by decide)); have hn685_1 : ad685.block ≠ gb672 := Kd.own_blk (Kd.R_ne HO_5.out BK672.out (by decide)); have hn685_2 : ad685.block ≠ gb672 := Kd.own_blk (Kd.R_ne HO_5.out BK672.out (by decide)); replace hx685_0 := (cell_far (p := ⟨gb672, 0, none⟩) (qA hn685_0) (.int .i64 ((rd_T59 l0_1 x39_2).f0))).trans hx685_0; replace hx685_0 := (cell_far (p := ⟨gb672, 1, none⟩) (qA hn685_1) (.int .i64 ((rd_T59 l0_1 x39_2).f1))).trans hx685_0; replace hx685_0 := (cell_far (p := ⟨gb672, 2, none⟩) (qA hn685_2) (.int .i64 ((rd_T59 l0_1 x39_2).f2))).trans hx685_0; clear hn685_0; clear hn685_1; clear hn685_2; replace p685 := eq_true p685; replace q685 := eq_true q685))
                     have n0_ : Aside0 (Kd.R Kd.bool 4 ((((w132.setCell ⟨gb672, 0, none⟩ (.int .i64 ((rd_T59 l0_1 x39_2).f0))).setCell ⟨gb672, 1, none⟩ (.int .i64 ((rd_T59 l0_1 x39_2).f1))).setCell ⟨gb672, 2, none⟩ (.int .i64 ((rd_T59 l0_1 x39_2).f2))).setCell ⟨gb672, 1, none⟩ (.int .i64 (rd x5_2 ((rd_T59 l0_1 x39_2).f1)))) w.heap.size (fun _ => True) (.slice (some ad673) t662.length co140) t662) := ⟨by (with_reducible repeat (first | apply Kd.R_alloc | apply Kd.R_drewN | apply Kd.R_drew)); exact Kd.R_mono (Kd.R_far (p := ⟨gb672, 1, none⟩) (Kd.R_far (p := ⟨gb672, 2, none⟩) (Kd.R_far (p := ⟨gb672, 1, none⟩) (Kd.R_far (p := ⟨gb672, 0, none⟩) (Kd.R_types HO_4.out BK672.out (by decide)) (fun _ hk => hk.2) (.int .i64 ((rd_T59 l0_1 x39_2).f0))) (fun _ hk => hk.2) (.int .i64 ((rd_T59 l0_1 x39_2).f1))) (fun _ hk => hk.2) (.int .i64 ((rd_T59 l0_1 x39_2).f2))) (fun _ hk => hk.2) (.int .i64 (rd x5_2 ((rd_T59 l0_1 x39_2).f1)))) (fun _ hk => trivial)⟩
                     have n1_ : Aside0 (Kd.R (Kd.int .i64) 3 ((((w132.setCell ⟨gb672, 0, none⟩ (.int .i64 ((rd_T59 l0_1 x39_2).f0))).setCell ⟨gb672, 1, none⟩ (.int .i64 ((rd_T59 l0_1 x39_2).f1))).setCell ⟨gb672, 2, none⟩ (.int .i64 ((rd_T59 l0_1 x39_2).f2))).setCell ⟨gb672, 1, none⟩ (.int .i64 (rd x5_2 ((rd_T59 l0_1 x39_2).f1)))) w.heap.size (fun _ => True) (.slice (some ad685) x5_2.length co141) x5_2) := ⟨by (with_reducible repeat (first | apply Kd.R_alloc | apply Kd.R_drewN | apply Kd.R_drew)); exact Kd.R_mono (Kd.R_far (p := ⟨gb672, 1, none⟩) (Kd.R_far (p := ⟨gb672, 2, none⟩) (Kd.R_far (p := ⟨gb672, 1, none⟩) (Kd.R_far (p := ⟨gb672, 0, none⟩) (Kd.R_types HO_5.out BK672.out (by decide)) (fun _ hk => hk.2) (.int .i64 ((rd_T59 l0_1 x39_2).f0))) (fun _ hk => hk.2) (.int .i64 ((rd_T59 l0_1 x39_2).f1))) (fun _ hk => hk.2) (.int .i64 ((rd_T59 l0_1 x39_2).f2))) (fun _ hk => hk.2) (.int .i64 (rd x5_2 ((rd_T59 l0_1 x39_2).f1)))) (fun _ hk => trivial)⟩
                     have n2_ : Aside0 (Kd.R k59 59 ((((w132.setCell ⟨gb672, 0, none⟩ (.int .i64 ((rd_T59 l0_1 x39_2).f0))).setCell ⟨gb672, 1, none⟩ (.int .i64 ((rd_T59 l0_1 x39_2).f1))).setCell ⟨gb672, 2, none⟩ (.int .i64 ((rd_T59 l0_1 x39_2).f2))).setCell ⟨gb672, 1, none⟩ (.int .i64 (rd x5_2 ((rd_T59 l0_1 x39_2).f1)))) w.heap.size (fun k_ => k_ ≠ gb672) u670001 x670001_2) := ⟨by (with_reducible repeat (first | apply Kd.R_alloc | apply Kd.R_drewN | apply Kd.R_drew)); exact Kd.R_mono (Kd.R_far (p := ⟨gb672, 1, none⟩) (Kd.R_far (p := ⟨gb672, 2, none⟩) (Kd.R_far (p := ⟨gb672, 1, none⟩) (Kd.R_far (p := ⟨gb672, 0, none⟩) (Kd.R_mono HO_670001.out (fun k_ hk => (⟨hk, hk.2⟩ : _ ∧ k_ ≠ gb672))) (fun _ hk => hk.2) (.int .i64 ((rd_T59 l0_1 x39_2).f0))) (fun _ hk => hk.2) (.int .i64 ((rd_T59 l0_1 x39_2).f1))) (fun _ hk => hk.2) (.int .i64 ((rd_T59 l0_1 x39_2).f2))) (fun _ hk => hk.2) (.int .i64 (rd x5_2 ((rd_T59 l0_1 x39_2).f1)))) (fun _ hk => hk.1.2)⟩
                     have n3_ : Aside0 (((((w132.setCell ⟨gb672, 0, none⟩ (.int .i64 ((rd_T59 l0_1 x39_2).f0))).setCell ⟨gb672, 1, none⟩ (.int .i64 ((rd_T59 l0_1 x39_2).f1))).setCell ⟨gb672, 2, none⟩ (.int .i64 ((rd_T59 l0_1 x39_2).f2))).setCell ⟨gb672, 1, none⟩ (.int .i64 (rd x5_2 ((rd_T59 l0_1 x39_2).f1)))).heap[gb659]? = some (.cells #[.int .i64 a0_0, .slice (some ad671) l0_1.length c0_1, .slice A0_2 l0_2.length c0_2] 30 (0, 0))) := ⟨by (with_reducible repeat (first | refine blk_drewN ?_ _ | refine blk_drew ?_ | refine blk_alloc ?_ _)); refine blk_far ?_ NB659_672.out _; (with_reducible repeat (first | refine blk_drewN ?_ _ | refine blk_drew ?_ | refine blk_alloc ?_ _)); refine blk_far ?_ NB659_672.out _; (with_reducible repeat (first | refine blk_drewN ?_ _ | refine blk_drew ?_ | refine blk_alloc ?_ _)); refine blk_far ?_ NB659_672.out _; (with_reducible repeat (first | refine blk_drewN ?_ _ | refine blk_drew ?_ | refine blk_alloc ?_ _)); refine blk_far ?_ NB659_672.out _; exact qK BK659.out⟩
                     have n4_ : Aside0 (((((w132.setCell ⟨gb672, 0, none⟩ (.int .i64 ((rd_T59 l0_1 x39_2).f0))).setCell ⟨gb672, 1, none⟩ (.int .i64 ((rd_T59 l0_1 x39_2).f1))).setCell ⟨gb672, 2, none⟩ (.int .i64 ((rd_T59 l0_1 x39_2).f2))).setCell ⟨gb672, 1, none⟩ (.int .i64 (rd x5_2 ((rd_T59 l0_1 x39_2).f1)))).heap[gb660]? = some (.cells #[.int .i64 0, .slice none 0 0, .slice none 0 0] 30 (0, 0))) := ⟨by (with_reducible repeat (first | refine blk_drewN ?_ _ | refine blk_drew ?_ | refine blk_alloc ?_ _)); refine blk_far ?_ NB660_672.out _; (with_reducible repeat (first | refine blk_drewN ?_ _ | refine blk_drew ?_ | refine blk_alloc ?_ _)); refine blk_far ?_ NB660_672.out _; (with_reducible repeat (first | refine blk_drewN ?_ _ | refine blk_drew ?_ | refine blk_alloc ?_ _)); refine blk_far ?_ NB660_672.out _; (with_reducible repeat (first | refine blk_drewN ?_ _ | refine blk_drew ?_ | refine blk_alloc ?_ _)); refine blk_far ?_ NB660_672.out _; exact qK BK660.out⟩
                     have n5_ : Aside0 (((((w132.setCell ⟨gb672, 0, none⟩ (.int .i64 ((rd_T59 l0_1 x39_2).f0))).setCell ⟨gb672, 1, none⟩ (.int .i64 ((rd_T59 l0_1 x39_2).f1))).setCell ⟨gb672, 2, none⟩ (.int .i64 ((rd_T59 l0_1 x39_2).f2))).setCell ⟨gb672, 1, none⟩ (.int .i64 (rd x5_2 ((rd_T59 l0_1 x39_2).f1)))).heap[gb669]? = some (.cells #[.int .i64 a0_0, u670001, .slice none 0 0] 30 (0, 0))) := ⟨by (with_reducible repeat (first | refine blk_drewN ?_ _ | refine blk_drew ?_ | refine blk_alloc ?_ _)); refine blk_far ?_ NB669_672.out _; (with_reducible repeat (first | refine blk_drewN ?_ _ | refine blk_drew ?_ | refine blk_alloc ?_ _)); refine blk_far ?_ NB669_672.out _; (with_reducible repeat (first | refine blk_drewN ?_ _ | refine blk_drew ?_ | refine blk_alloc ?_ _)); refine blk_far ?_ NB669_672.out _; (with_reducible repeat (first | refine blk_drewN ?_ _ | refine blk_drew ?_ | refine blk_alloc ?_ _)); refine blk_far ?_ NB669_672.out _; exact qK BK669.out⟩
                     have n6_ : Aside0 (((((w132.setCell ⟨gb672, 0, none⟩ (.int .i64 ((rd_T59 l0_1 x39_2).f0))).setCell ⟨gb672, 1, none⟩ (.int .i64 ((rd_T59 l0_1 x39_2).f1))).setCell ⟨gb672, 2, none⟩ (.int .i64 ((rd_T59 l0_1 x39_2).f2))).setCell ⟨gb672, 1, none⟩ (.int .i64 (rd x5_2 ((rd_T59 l0_1 x39_2).f1)))).heap[gb672]? = some (.cells #[.int .i64 ((rd_T59 l0_1 x39_2).f0), .int .i64 (rd x5_2 ((rd_T59 l0_1 x39_2).f1)), .int .i64 ((rd_T59 l0_1 x39_2).f2)] 59 (0, 0))) := ⟨by (with_reducible repeat (first | refine blk_drewN ?_ _ | refine blk_drew ?_ | refine blk_alloc ?_ _)); refine blk_put (cs := #[.int .i64 ((rd_T59 l0_1 x39_2).f0), .int .i64 ((rd_T59 l0_1 x39_2).f1), .int .i64 ((rd_T59 l0_1 x39_2).f2)]) ?_ 1 _ rfl; refine blk_put (cs := #[.int .i64 ((rd_T59 l0_1 x39_2).f0), .int .i64 ((rd_T59 l0_1 x39_2).f1), .int .i64 0]) ?_ 2 _ rfl; refine blk_put (cs := #[.int .i64 ((rd_T59 l0_1 x39_2).f0), .int .i64 0, .int .i64 0]) ?_ 1 _ rfl; refine blk_put (cs := #[.int .i64 0, .int .i64 0, .int .i64 0]) ?_ 0 _ rfl; exact qK BK672.out⟩
                     have n7_ : Aside0 (Below w.heap.size w ((((w132.setCell ⟨gb672, 0, none⟩ (.int .i64 ((rd_T59 l0_1 x39_2).f0))).setCell ⟨gb672, 1, none⟩ (.int .i64 ((rd_T59 l0_1 x39_2).f1))).setCell ⟨gb672, 2, none⟩ (.int .i64 ((rd_T59 l0_1 x39_2).f2))).setCell ⟨gb672, 1, none⟩ (.int .i64 (rd x5_2 ((rd_T59 l0_1 x39_2).f1))))) := ⟨qB⟩
                     (try clear HO_4)
                     (try clear HO_5)
                     (try clear HO_670001)
                     (try clear BK659)
                     (try clear BK660)
                     (try clear BK669)
                     (try clear BK672)
                     (try clear HB)
                     generalize ((((w132.setCell ⟨gb672, 0, none⟩ (.int .i64 ((rd_T59 l0_1 x39_2).f0))).setCell ⟨gb672, 1, none⟩ (.int .i64 ((rd_T59 l0_1 x39_2).f1))).setCell ⟨gb672, 2, none⟩ (.int .i64 ((rd_T59 l0_1 x39_2).f2))).setCell ⟨gb672, 1, none⟩ (.int .i64 (rd x5_2 ((rd_T59 l0_1 x39_2).f1)))) = w142 at n0_ n1_ n2_ n3_ n4_ n5_ n6_ n7_ ⊢
                     have HO_4 := n0_
                     have HO_5 := n1_
                     have HO_670001 := n2_
                     have BK659 := n3_
                     have BK660 := n4_
                     have BK669 := n5_
                     have BK672 := n6_
                     have HB := n7_
                     clear n0_ n1_ n2_ n3_ n4_ n5_ n6_ n7_
                     have n0_ := Aside0.mk (Kd.R_drew HO_4.out)
                     have n1_ := Aside0.mk (Kd.R_drew HO_5.out)
                     have n2_ := Aside0.mk (Kd.R_drew HO_670001.out)
                     have n3_ := Aside0.mk (blk_drew BK659.out)
                     have n4_ := Aside0.mk (blk_drew BK660.out)
                     have n5_ := Aside0.mk (blk_drew BK669.out)
                     have n6_ := Aside0.mk (blk_drew BK672.out)
                     have n7_ := Aside0.mk (below_drew1 HB.out)
                     clear HO_4
                     clear HO_5
                     clear HO_670001
                     clear BK659
                     clear BK660
                     clear BK669
                     clear BK672
                     clear HB
                     have HO_4 := n0_
                     have HO_5 := n1_
                     have HO_670001 := n2_
                     have BK659 := n3_
                     have BK660 := n4_
                     have BK669 := n5_
                     have BK672 := n6_
                     have HB := n7_
                     clear n0_ n1_ n2_ n3_ n4_ n5_ n6_ n7_
                     obtain ⟨Ao144, co144, eo144⟩ := Kd.R_slice HO_670001.out
                     (first | subst eo144 | (injection eo144 with f1_ f2_ f3_; have f4_ := f1_.symm; have f5_ := f3_.symm; clear f1_ f2_ f3_; subst f4_; subst f5_))
                     refine start_ (n := 9) (S := fun w' => w'.cell? ⟨gb659, 0, none⟩ = some (.int .i64 a0_0) ∧ w'.cell? ⟨gb659, 1, none⟩ = some (.slice (some ad671) l0_1.length c0_1) ∧ w'.cell? ⟨gb659, 2, none⟩ = some (.slice A0_2 l0_2.length c0_2) ∧ w'.cell? ⟨gb669, 0, none⟩ = some (.int .i64 a0_0) ∧ w'.cell? ⟨gb669, 1, none⟩ = some (.slice Ao144 x670001_2.length co144) ∧ w'.cell? ⟨gb669, 2, none⟩ = some (.slice none 0 0)) (ds := [8]) bX33_4 (by kernel_rfl) rfl rfl ⟨(blk_cell BK659.out 0).trans rfl, (blk_cell BK659.out 1).trans rfl, (blk_cell BK659.out 2).trans rfl, (blk_cell BK669.out 0).trans rfl, (blk_cell BK669.out 1).trans rfl, (blk_cell BK669.out 2).trans rfl⟩ (fun hHeld => ?_); refine with_tabW impl_PruneCircuit.tab17 impl_PruneCircuit.bits17 (fun HT_ HW_ => ?_)
                     generalize w142.drew = w143 at HO_4 HO_5 HO_670001 BK659 BK660 BK669 BK672 HB hHeld ⊢
                     refine pure_ (i := 0) (N := some 70) (v := ?_) (a' := ?_) bX33_5 rfl rfl (any_of HT_.out (by kernel_rfl)) (fun _ _ _ h => h) (Or.inl ⟨by rfl, ?_⟩) ?_ ?_
                     rotate_left
                     ·intro w'
                      go_simp
                      with_reducible rfl
                     rotate_left
                     ·simp only [Act.put, List.setIfInBounds_toArray, List.set_cons_zero, List.set_cons_succ, i64_w, i32_w]
                      rfl
                     refine pure_ (i := 1) (N := some 71) (v := ?_) (a' := ?_) bX33_6 rfl rfl (any_of HT_.out (by kernel_rfl)) (fun _ _ _ h => h) (Or.inl ⟨by rfl, ?_⟩) ?_ ?_
                     rotate_left
                     ·intro w'
                      go_simp
                      with_reducible rfl
                     rotate_left
                     ·simp only [Act.put, List.setIfInBounds_toArray, List.set_cons_zero, List.set_cons_succ, i64_w, i32_w]
                      rfl
                     refine pure_ (i := 3) (N := some 73) (v := ?_) (a' := ?_) bX33_7 rfl rfl (any_of HT_.out (by kernel_rfl)) (fun _ _ _ h => h) (Or.inl ⟨by rfl, ?_⟩) ?_ ?_
                     rotate_left
                     ·intro w'
                      go_simp
                      with_reducible rfl
                     rotate_left
                     ·simp only [Act.put, List.setIfInBounds_toArray, List.set_cons_zero, List.set_cons_succ, i64_w, i32_w]
                      rfl
                     refine take_ (i := 2) (N := some 72) (v := ?_) (a' := ?_) bX33_8 rfl rfl (take_ofW HT_.out HW_.out (by kernel_rfl)) (fun _ _ _ h => h) (Or.inl ⟨by rfl, ?_⟩) hHeld ?_ ?_
                     rotate_left
                     ·rintro w' ⟨s0, s1, s2, s3, s4, s5⟩
                      go_simp
                      with_reducible rfl
                     rotate_left
                     ·simp only [Act.put, List.setIfInBounds_toArray, List.set_cons_zero, List.set_cons_succ, i64_w, i32_w]
                      rfl
                     refine pure_ (i := 4) (N := some 74) (v := ?_) (a' := ?_) bX33_9 rfl rfl (any_of HT_.out (by kernel_rfl)) (fun _ _ _ h => h) (Or.inl ⟨by rfl, ?_⟩) ?_ ?_
                     rotate_left
                     ·intro w'
                      go_simp
                      with_reducible rfl
                     rotate_left
                     ·simp only [Act.put, List.setIfInBounds_toArray, List.set_cons_zero, List.set_cons_succ, i64_w, i32_w]
                      rfl
                     refine take_ (i := 5) (N := some 75) (v := ?_) (a' := ?_) bX33_10 rfl rfl (take_ofW HT_.out HW_.out (by kernel_rfl)) (fun _ _ _ h => h) (Or.inl ⟨by rfl, ?_⟩) hHeld ?_ ?_
                     rotate_left
                     ·rintro w' ⟨s0, s1, s2, s3, s4, s5⟩
                      go_simp
                      with_reducible rfl
                     rotate_left
                     ·simp only [Act.put, List.setIfInBounds_toArray, List.set_cons_zero, List.set_cons_succ, i64_w, i32_w]
                      rfl
                     refine one_ (i := 6) (N := some 76) bX33_11 rfl rfl (one_of HT_.out (by kernel_rfl)) (by decide) (fun K hK => ?_)
                     refine goes_ Try.func49 (by kernel_rfl) rfl #[.agg #[.int .i64 a0_0, .slice Ao144 x670001_2.length co144, .slice none 0 0]] (by rfl) rfl rfl qG ?_
                     refine (impl_Circuit_wires.calls a0_0 _ _ x670001_2 _ _ ([] : List Int) t692 _ ?side1 ?side2 ?side3 ?side4 A128.out).mono ?_
                     (case side1 => repeat (first | exact (Kd.R_reads' HO_670001.out).2.2 | (with_reducible refine Kd.C_alloc ?_ _) | (with_reducible refine Kd.C_drewN ?_ _) | (with_reducible refine Kd.C_drew ?_)))
                     (case side2 => exact (Kd.R_reads' HO_670001.out).2.1)
                     (case side3 => exact Kd.C_nil _ _)
                     (case side4 => exact Nat.le_refl _)
                     rintro e w145 ⟨rfl, hb⟩
                     refine ⟨_, rfl, ?_⟩
                     have n0_ := Aside0.mk (Kd.R_below (qR HO_4.out) hb)
                     have n1_ := Aside0.mk (Kd.R_below (qR HO_5.out) hb)
                     have n2_ := Aside0.mk (Kd.R_below (qR HO_670001.out) hb)
                     have n3_ := Aside0.mk (blk_below (g := gb659) (o := .cells #[.int .i64 a0_0, .slice (some ad671) l0_1.length c0_1, .slice A0_2 l0_2.length c0_2] 30 (0, 0)) (qK BK659.out) hb)
                     have n4_ := Aside0.mk (blk_below (g := gb660) (o := .cells #[.int .i64 0, .slice none 0 0, .slice none 0 0] 30 (0, 0)) (qK BK660.out) hb)
                     have n5_ := Aside0.mk (blk_below (g := gb669) (o := .cells #[.int .i64 a0_0, .slice Ao144 x670001_2.length co144, .slice none 0 0] 30 (0, 0)) (qK BK669.out) hb)
                     have n6_ := Aside0.mk (blk_below (g := gb672) (o := .cells #[.int .i64 ((rd_T59 l0_1 x39_2).f0), .int .i64 (rd x5_2 ((rd_T59 l0_1 x39_2).f1)), .int .i64 ((rd_T59 l0_1 x39_2).f2)] 59 (0, 0)) (qK BK672.out) hb)
                     have n7_ := Aside0.mk (below_step (qB) hb)
                     clear HO_4
                     clear HO_5
                     clear HO_670001
                     clear BK659
                     clear BK660
                     clear BK669
                     clear BK672
                     clear HB
                     have HO_4 := n0_
                     have HO_5 := n1_
                     have HO_670001 := n2_
                     have BK659 := n3_
                     have BK660 := n4_
                     have BK669 := n5_
                     have BK672 := n6_
                     have HB := n7_
                     clear n0_ n1_ n2_ n3_ n4_ n5_ n6_ n7_
                     (try clear hb)
                     (try clear hb2)
                     (try clear hk)
                     (try clear hi)
                     have p130 : 0 ≤ ((ji37) : Int) := qD
                     have q130 : ((ji37) : Int) < ((x5_2.length : Int) : Int) := qD
                     obtain ⟨go130, co130, eo130, gb130, gl130, cl130, HG130⟩ := Kd.R_form HO_5.out (by omega)
                     (first | cases eo130 | (injection eo130 with ea_ en_ ec_; (first | subst ea_ | (injection ea_ with ea_; subst ea_)); subst ec_; clear en_))
                     have GB130 := Aside0.mk gb130
                     have GG130 := Aside0.mk HG130
                     clear gb130 gl130 HG130
                     (first | simp only [add_plain] at hx685_0 | skip)
                     obtain ⟨hx130_0, hf130_0⟩ := Kd.R_celln 0 HO_5.out ((ji37) : Int) p130 q130
                     replace p130 := eq_true p130
                     replace q130 := eq_true q130
                     have HP146 := Kd.R_putn HO_5.out ((ji37) : Int) t692
                     rw [← Ny693.out] at HP146
                     have HQ146 := Aside0.mk HP146
                     clear HP146
                     refine hK.out _ _ ⟨(blk_cell BK659.out 0).trans rfl, (blk_cell BK659.out 1).trans rfl, (blk_cell BK659.out 2).trans rfl, (blk_cell BK669.out 0).trans rfl, (blk_cell BK669.out 1).trans rfl, (blk_cell BK669.out 2).trans rfl⟩ (fun hHeld => ?_)
                     clear hK K
                     refine norm_ (a' := ?_) ?_ ?_
                     rotate_left
                     ·show Act.put _ (some 76) _ = _
                      simp only [Act.put, List.setIfInBounds_toArray, List.set_cons_zero, List.set_cons_succ, i64_w, i32_w]
                      rfl
                     refine pure_ (i := 7) (N := some 77) (v := ?_) (a' := ?_) bX33_12 rfl rfl (any_of HT_.out (by kernel_rfl)) (fun _ _ _ h => h) (Or.inl ⟨by rfl, ?_⟩) ?_ ?_
                     rotate_left
                     ·intro w'
                      go_simp
                      with_reducible rfl
                     rotate_left
                     ·simp only [Act.put, List.setIfInBounds_toArray, List.set_cons_zero, List.set_cons_succ, i64_w, i32_w]
                      rfl
                     refine last_ (i := 8) (N := none) bX33_13 rfl rfl (one_of HT_.out (by kernel_rfl)) (by decide) (fun K hK => ?_)
                     refine skip_ (w1 := ?_) (by rfl) rfl ?_ ?_
                     rotate_left
                     ·go_simp
                      rfl
                     refine hK.out _ _ ?_
                     clear hK K
                     refine done_ (done_of HT_.out (by kernel_rfl)) ?_
                     have n0_ : Aside0 (Kd.R Kd.bool 4 (w145.setCell ⟨go130, ((ji37) : Int).toNat, none⟩ (.int .i64 t692)) w.heap.size (fun _ => True) (.slice (some ad673) t662.length co140) t662) := ⟨by (with_reducible repeat (first | apply Kd.R_alloc | apply Kd.R_drewN | apply Kd.R_drew)); exact Kd.R_mono (Kd.R_far (p := ⟨go130, ((ji37) : Int).toNat, none⟩) (Kd.R_types HO_4.out GG130.out (by decide)) (fun _ hk => hk.2) (.int .i64 t692)) (fun _ hk => trivial)⟩
                     have n1_ : Aside0 (Kd.R (Kd.int .i64) 3 (w145.setCell ⟨go130, ((ji37) : Int).toNat, none⟩ (.int .i64 t692)) w.heap.size (fun _ => True) (.slice (some ⟨go130, 0, none⟩) x5_2.length co141) y693) := ⟨qR HQ146.out⟩
                     have n2_ : Aside0 (Kd.R k59 59 (w145.setCell ⟨go130, ((ji37) : Int).toNat, none⟩ (.int .i64 t692)) w.heap.size (fun k_ => k_ ≠ gb672) (.slice Ao144 x670001_2.length co144) x670001_2) := ⟨by (with_reducible repeat (first | apply Kd.R_alloc | apply Kd.R_drewN | apply Kd.R_drew)); exact Kd.R_mono (Kd.R_far (p := ⟨go130, ((ji37) : Int).toNat, none⟩) (Kd.R_types HO_670001.out GG130.out (by decide)) (fun _ hk => hk.2) (.int .i64 t692)) (fun _ hk => hk.1)⟩
                     have n3_ : Aside0 ((w145.setCell ⟨go130, ((ji37) : Int).toNat, none⟩ (.int .i64 t692)).heap[gb659]? = some (.cells #[.int .i64 a0_0, .slice (some ad671) l0_1.length c0_1, .slice A0_2 l0_2.length c0_2] 30 (0, 0))) := ⟨by (with_reducible repeat (first | refine blk_drewN ?_ _ | refine blk_drew ?_ | refine blk_alloc ?_ _)); refine blk_far ?_ (by have h_ := Kd.R_ne HO_5.out BK659.out (by decide); intro e_; exact h_ (by rw [e_]; rfl)) _; exact qK BK659.out⟩
                     have n4_ : Aside0 ((w145.setCell ⟨go130, ((ji37) : Int).toNat, none⟩ (.int .i64 t692)).heap[gb660]? = some (.cells #[.int .i64 0, .slice none 0 0, .slice none 0 0] 30 (0, 0))) := ⟨by (with_reducible repeat (first | refine blk_drewN ?_ _ | refine blk_drew ?_ | refine blk_alloc ?_ _)); refine blk_far ?_ (by have h_ := Kd.R_ne HO_5.out BK660.out (by decide); intro e_; exact h_ (by rw [e_]; rfl)) _; exact qK BK660.out⟩
                     have n5_ : Aside0 ((w145.setCell ⟨go130, ((ji37) : Int).toNat, none⟩ (.int .i64 t692)).heap[gb669]? = some (.cells #[.int .i64 a0_0, .slice Ao144 x670001_2.length co144, .slice none 0 0] 30 (0, 0))) := ⟨by (with_reducible repeat (first | refine blk_drewN ?_ _ | refine blk_drew ?_ | refine blk_alloc ?_ _)); refine blk_far ?_ (by have h_ := Kd.R_ne HO_5.out BK669.out (by decide); intro e_; exact h_ (by rw [e_]; rfl)) _; exact qK BK669.out⟩
                     have n6_ : Aside0 ((w145.setCell ⟨go130, ((ji37) : Int).toNat, none⟩ (.int .i64 t692)).heap[gb672]? = some (.cells #[.int .i64 ((rd_T59 l0_1 x39_2).f0), .int .i64 (rd x5_2 ((rd_T59 l0_1 x39_2).f1)), .int .i64 ((rd_T59 l0_1 x39_2).f2)] 59 (0, 0))) := ⟨by (with_reducible repeat (first | refine blk_drewN ?_ _ | refine blk_drew ?_ | refine blk_alloc ?_ _)); refine blk_far ?_ (by have h_ := Kd.R_ne HO_5.out BK672.out (by decide); intro e_; exact h_ (by rw [e_]; rfl)) _; exact qK BK672.out⟩
                     have n7_ : Aside0 (Below w.heap.size w (w145.setCell ⟨go130, ((ji37) : Int).toNat, none⟩ (.int .i64 t692))) := ⟨by repeat (first | (with_reducible first | exact HB.out | apply below_alloc | apply pw_below_drewN | apply below_drew1 | refine below_set ?_ GB130.out | refine below_set ?_ GE659.out | refine below_set ?_ GE660.out | refine below_set ?_ GE669.out | refine below_set ?_ GE672.out) | exact HB.out)⟩
                     (try clear HO_4)
                     (try clear HO_5)
                     (try clear HO_670001)
                     (try clear BK659)
                     (try clear BK660)
                     (try clear BK669)
                     (try clear BK672)
                     (try clear HB)
                     generalize (w145.setCell ⟨go130, ((ji37) : Int).toNat, none⟩ (.int .i64 t692)) = w147 at n0_ n1_ n2_ n3_ n4_ n5_ n6_ n7_ ⊢
                     have HO_4 := n0_
                     have HO_5 := n1_
                     have HO_670001 := n2_
                     have BK659 := n3_
                     have BK660 := n4_
                     have BK669 := n5_
                     have BK672 := n6_
                     have HB := n7_
                     clear n0_ n1_ n2_ n3_ n4_ n5_ n6_ n7_
                     have hnb148 := NB669_660.out
                     have hnc148 := NB660_669.out
                     have hcz149_0 : w147.cell? ⟨gb669, 0, none⟩ = some (.int .i64 a0_0) := (blk_cell BK669.out 0).trans rfl
                     have hcz149_1 : w147.cell? ⟨gb669, 1, none⟩ = some (.slice Ao144 x670001_2.length co144) := (blk_cell BK669.out 1).trans rfl
                     have hcz149_2 : w147.cell? ⟨gb669, 2, none⟩ = some (.slice none 0 0) := (blk_cell BK669.out 2).trans rfl
                     have hfz149_0 := blk_frozen BK669.out 0
                     have hfz149_1 := blk_frozen BK669.out 1
                     have hfz149_2 := blk_frozen BK669.out 2
                     have hcz150_0 : w147.cell? ⟨gb672, 0, none⟩ = some (.int .i64 ((rd_T59 l0_1 x39_2).f0)) := (blk_cell BK672.out 0).trans rfl
                     have hcz150_1 : w147.cell? ⟨gb672, 1, none⟩ = some (.int .i64 (rd x5_2 ((rd_T59 l0_1 x39_2).f1))) := (blk_cell BK672.out 1).trans rfl
                     have hcz150_2 : w147.cell? ⟨gb672, 2, none⟩ = some (.int .i64 ((rd_T59 l0_1 x39_2).f2)) := (blk_cell BK672.out 2).trans rfl
                     have hfz150_0 := blk_frozen BK672.out 0
                     have hfz150_1 := blk_frozen BK672.out 1
                     have hfz150_2 := blk_frozen BK672.out 2
                     try go_wp2_with (first | ((with_reducible refine gate_builtin (b := .append) (xs := #[.tmp 79, .tmp 81]) rfl ?_); at_builtin; refine Kd.R_append k59 (w0 := w) w.heap.size rfl (.tmp 79) (.tmp 81) 28 59 (.agg #[(.int .i64 0), (.int .i64 0), (.int .i64 0)]) 24 rfl Try.underlying28 info59 rfl (by decide) (by omega) (.slice Ao144 x670001_2.length co144) x670001_2 (⟨(rd_T59 l0_1 x39_2).f0, rd x5_2 ((rd_T59 l0_1 x39_2).f1), (rd_T59 l0_1 x39_2).f2⟩ : S59) [.int .i64 ((rd_T59 l0_1 x39_2).f0), .int .i64 (rd x5_2 ((rd_T59 l0_1 x39_2).f1)), .int .i64 ((rd_T59 l0_1 x39_2).f2)] (fun k_ => k_ ≠ gb672) (fun _ => False) rfl rfl ?aP (fun _ hk => hk.elim) ?aF ?aO ?aB ?aS ?aL ?_; (case aP => exact k59_mkM _ _ _ (⟨(rd_T59 l0_1 x39_2).f0, rd x5_2 ((rd_T59 l0_1 x39_2).f1), (rd_T59 l0_1 x39_2).f2⟩ : S59)); (case aB => exact (qB)); (case aF => exact (fun k_ hk => Kd.freshB (g := gb672) (o := .cells #[.int .i64 ((rd_T59 l0_1 x39_2).f0), .int .i64 (rd x5_2 ((rd_T59 l0_1 x39_2).f1)), .int .i64 ((rd_T59 l0_1 x39_2).f2)] 59 (0, 0)) (qK BK672.out) k_ hk)); (case aO => exact (qR HO_670001.out)); (case aS => exact (below_size (qB))); (case aL => have := LMc131.out; omega); intro v695 w151 ho hb hg hat; rw [← Ny694.out] at ho; have n0_ := Aside0.mk (Kd.R_over' (qR HO_4.out) (Kd.R_typed (qR HO_670001.out)) (by decide) hg); have n1_ := Aside0.mk (Kd.R_over' (qR HO_5.out) (Kd.R_typed (qR HO_670001.out)) (by decide) hg); have n2_ := Aside0.mk (blk_grown (g := gb659) (o := .cells #[.int .i64 a0_0, .slice (some ad671) l0_1.length c0_1, .slice A0_2 l0_2.length c0_2] 30 (0, 0)) (qK BK659.out) hg (Kd.R_ne HO_670001.out BK659.out (by decide))); have n3_ := Aside0.mk (blk_grown (g := gb660) (o := .cells #[.int .i64 0, .slice none 0 0, .slice none 0 0] 30 (0, 0)) (qK BK660.out) hg (Kd.R_ne HO_670001.out BK660.out (by decide))); have n4_ := Aside0.mk (blk_grown (g := gb669) (o := .cells #[.int .i64 a0_0, .slice Ao144 x670001_2.length co144, .slice none 0 0] 30 (0, 0)) (qK BK669.out) hg (Kd.R_ne HO_670001.out BK669.out (by decide))); have n5_ := Aside0.mk (blk_grown (g := gb672) (o := .cells #[.int .i64 ((rd_T59 l0_1 x39_2).f0), .int .i64 (rd x5_2 ((rd_T59 l0_1 x39_2).f1)), .int .i64 ((rd_T59 l0_1 x39_2).f2)] 59 (0, 0)) (qK BK672.out) hg (Kd.R_away HO_670001.out (fun _ hk => hk))); have n6_ := Aside0.mk (hb); have n7_ := Aside0.mk (ho); clear HO_4; clear HO_5; clear BK659; clear BK660; clear BK669; clear BK672; clear HB; clear HO_670001; have HO_4 := n0_; have HO_5 := n1_; have BK659 := n2_; have BK660 := n3_; have BK669 := n4_; have BK672 := n5_; have HB := n6_; have HO696 := n7_; clear n0_ n1_ n2_ n3_ n4_ n5_ n6_ n7_; clear ho hb hg hat; obtain ⟨Ao152, co152, eo152⟩ := Kd.R_slice HO696.out; subst eo152; have hcz153_0 : w151.cell? ⟨gb669, 0, none⟩ = some (.int .i64 a0_0) := (blk_cell BK669.out 0).trans rfl; have hcz153_1 : w151.cell? ⟨gb669, 1, none⟩ = some (.slice Ao144 x670001_2.length co144) := (blk_cell BK669.out 1).trans rfl; have hcz153_2 : w151.cell? ⟨gb669, 2, none⟩ = some (.slice none 0 0) := (blk_cell BK669.out 2).trans rfl; have hfz153_0 := blk_frozen BK669.out 0; have hfz153_1 := blk_frozen BK669.out 1; have hfz153_2 := blk_frozen BK669.out 2))
                     go_roundg k2
                     case measure => have := HK1.out; have := HK2.out; omega
                     case rel => exact ⟨(y693), (wrap64 (x39_2 + 1)), (y694), (.slice Ao152 y694.length co152), qS, H', ⟨by have := HK1.out; have := HK2.out; omega⟩, ⟨by (with_reducible repeat (first | apply Kd.R_alloc | apply Kd.R_drewN | apply Kd.R_drew)); exact Kd.R_mono (Kd.R_far (p := ⟨gb669, 1, none⟩) (Kd.R_types HO_4.out BK669.out (by decide)) (fun _ hk => hk.2) (.slice Ao152 y694.length co152)) (fun _ hk => trivial)⟩, ⟨by (with_reducible repeat (first | apply Kd.R_alloc | apply Kd.R_drewN | apply Kd.R_drew)); exact Kd.R_mono (Kd.R_far (p := ⟨gb669, 1, none⟩) (Kd.R_types HO_5.out BK669.out (by decide)) (fun _ hk => hk.2) (.slice Ao152 y694.length co152)) (fun _ hk => trivial)⟩, ⟨by (with_reducible repeat (first | apply Kd.R_alloc | apply Kd.R_drewN | apply Kd.R_drew)); exact Kd.R_mono (Kd.R_far (p := ⟨gb669, 1, none⟩) (Kd.R_types HO696.out BK669.out (by decide)) (fun _ hk => hk.2) (.slice Ao152 y694.length co152)) (fun _ hk => trivial)⟩, ⟨by (with_reducible repeat (first | refine blk_drewN ?_ _ | refine blk_drew ?_ | refine blk_alloc ?_ _)); refine blk_far ?_ NB659_669.out _; exact qK BK659.out⟩, ⟨by (with_reducible repeat (first | refine blk_drewN ?_ _ | refine blk_drew ?_ | refine blk_alloc ?_ _)); refine blk_far ?_ NB660_669.out _; exact qK BK660.out⟩, ⟨by (with_reducible repeat (first | refine blk_drewN ?_ _ | refine blk_drew ?_ | refine blk_alloc ?_ _)); refine blk_put (cs := #[.int .i64 a0_0, .slice Ao144 x670001_2.length co144, .slice none 0 0]) ?_ 1 _ rfl; exact qK BK669.out⟩, ⟨qB⟩⟩
                    ·rw [if_neg c131] at H
                     exact absurd H (by simp)
                   ·rw [if_neg c129] at H
                    exact absurd H (by simp)
                 ·rw [if_neg c98] at H
                  exact absurd H (by simp)
                ·rw [if_neg c97] at H
                 exact absurd H (by simp)
              ·replace c41 := Bool.eq_false_iff.mpr c41
               subst c41
               have H1 : (impl_PruneCircuit.l1 k2 t662 x5_2 l0_1 (l0_1.length : Int) (wrap64 (x39_2 + 1)) a0_0 l0_1 l0_2 a0_0 x670001_2) = some (r1, r2, r3, r4) := by rw [if_neg (show ¬ (false = true) by decide)] at H; exact H
               clear H
               have H := H1
               clear H1
               have H' := Aside0.mk H
               clear H
               have p671 : 0 ≤ (x39_2 : Int) := qD
               have q671 : x39_2 < (l0_1.length : Int) := qD
               obtain ⟨ad671, e671, hx671_0, hx671_1, hx671_2⟩ := at_T59 HR0_1.out x39_2 p671 q671
               cases e671
               replace hx671_0 := (HB.out.cell (World.block_lt_of_cell? w _ hx671_0)).trans hx671_0
               replace hx671_1 := (HB.out.cell (World.block_lt_of_cell? w _ hx671_1)).trans hx671_1
               replace hx671_2 := (HB.out.cell (World.block_lt_of_cell? w _ hx671_2)).trans hx671_2
               replace p671 := eq_true p671
               replace q671 := eq_true q671
               go_wp2_with (first | ((with_reducible refine gate_dst (N := 9) rfl ?_); refine box_event ?hg (N := 9) ?hd (cs := #[.int .i64 0, .int .i64 0, .int .i64 0]) (t := 59) ?hr ?_; (case hd => rfl); (case hg => rfl); (case hr => first | (go_simp; done) | (go_simp; rfl)); intro gb672 hg w154 hbox hb; have n0_ := Aside0.mk (Kd.R_below (qR HO_4.out) hb); have n1_ := Aside0.mk (Kd.R_below (qR HO_5.out) hb); have n2_ := Aside0.mk (Kd.R_below (Kd.R_elderB (qR HO_670001.out) gb672 (Nat.le_of_eq hg.symm)) hb); have n3_ := Aside0.mk (blk_below (g := gb659) (o := .cells #[.int .i64 a0_0, .slice (some ad671) l0_1.length c0_1, .slice A0_2 l0_2.length c0_2] 30 (0, 0)) (qK BK659.out) hb); have n4_ := Aside0.mk (blk_below (g := gb660) (o := .cells #[.int .i64 0, .slice none 0 0, .slice none 0 0] 30 (0, 0)) (qK BK660.out) hb); have n5_ := Aside0.mk (blk_below (g := gb669) (o := .cells #[.int .i64 a0_0, u670001, .slice none 0 0] 30 (0, 0)) (qK BK669.out) hb); have n6_ := Aside0.mk (below_step (qB) hb); have n7_ := Aside0.mk (hbox); have n8_ := Aside0.mk ((by rw [hg]; exact (below_size (qB)) : w.heap.size ≤ gb672)); have n9_ := Aside0.mk ((by rw [hg]; exact (below_size (qB)) : w.heap.size ≤ gb672)); have n10_ := Aside0.mk ((by rw [hg]; exact Nat.ne_of_lt (blk_lt (g := gb659) (o := .cells #[.int .i64 a0_0, .slice (some ad671) l0_1.length c0_1, .slice A0_2 l0_2.length c0_2] 30 (0, 0)) (qK BK659.out)) : gb659 ≠ gb672)); have n11_ := Aside0.mk ((by rw [hg]; exact Nat.ne_of_gt (blk_lt (g := gb659) (o := .cells #[.int .i64 a0_0, .slice (some ad671) l0_1.length c0_1, .slice A0_2 l0_2.length c0_2] 30 (0, 0)) (qK BK659.out)) : gb672 ≠ gb659)); have n12_ := Aside0.mk ((by rw [hg]; exact Nat.ne_of_lt (blk_lt (g := gb660) (o := .cells #[.int .i64 0, .slice none 0 0, .slice none 0 0] 30 (0, 0)) (qK BK660.out)) : gb660 ≠ gb672)); have n13_ := Aside0.mk ((by rw [hg]; exact Nat.ne_of_gt (blk_lt (g := gb660) (o := .cells #[.int .i64 0, .slice none 0 0, .slice none 0 0] 30 (0, 0)) (qK BK660.out)) : gb672 ≠ gb660)); have n14_ := Aside0.mk ((by rw [hg]; exact Nat.ne_of_lt (blk_lt (g := gb669) (o := .cells #[.int .i64 a0_0, u670001, .slice none 0 0] 30 (0, 0)) (qK BK669.out)) : gb669 ≠ gb672)); have n15_ := Aside0.mk ((by rw [hg]; exact Nat.ne_of_gt (blk_lt (g := gb669) (o := .cells #[.int .i64 a0_0, u670001, .slice none 0 0] 30 (0, 0)) (qK BK669.out)) : gb672 ≠ gb669)); clear HO_4; clear HO_5; clear HO_670001; clear BK659; clear BK660; clear BK669; clear HB; have HO_4 := n0_; have HO_5 := n1_; have HO_670001 := n2_; have BK659 := n3_; have BK660 := n4_; have BK669 := n5_; have HB := n6_; have BK672 := n7_; have GW672 := n8_; have GE672 := n9_; have NB659_672 := n10_; have NB672_659 := n11_; have NB660_672 := n12_; have NB672_660 := n13_; have NB669_672 := n14_; have NB672_669 := n15_; clear n0_ n1_ n2_ n3_ n4_ n5_ n6_ n7_ n8_ n9_ n10_ n11_ n12_ n13_ n14_ n15_; clear hb hbox hg; have hnb155 := NB672_659.out; have hnc155 := NB659_672.out; have hnb156 := NB672_660.out; have hnc156 := NB660_672.out; have hnb157 := NB672_669.out; have hnc157 := NB669_672.out; have hcz158_0 : w154.cell? ⟨gb672, 0, none⟩ = some (.int .i64 0) := (blk_cell BK672.out 0).trans rfl; have hcz158_1 : w154.cell? ⟨gb672, 1, none⟩ = some (.int .i64 0) := (blk_cell BK672.out 1).trans rfl; have hcz158_2 : w154.cell? ⟨gb672, 2, none⟩ = some (.int .i64 0) := (blk_cell BK672.out 2).trans rfl; have hfz158_0 := blk_frozen BK672.out 0; have hfz158_1 := blk_frozen BK672.out 1; have hfz158_2 := blk_frozen BK672.out 2; have hnb159 := NB659_660.out; have hnc159 := NB660_659.out; have hnb160 := NB659_669.out; have hnc160 := NB669_659.out; have hcz161_0 : w154.cell? ⟨gb659, 0, none⟩ = some (.int .i64 a0_0) := (blk_cell BK659.out 0).trans rfl; have hcz161_1 : w154.cell? ⟨gb659, 1, none⟩ = some (.slice (some ad671) l0_1.length c0_1) := (blk_cell BK659.out 1).trans rfl; have hcz161_2 : w154.cell? ⟨gb659, 2, none⟩ = some (.slice A0_2 l0_2.length c0_2) := (blk_cell BK659.out 2).trans rfl; have hfz161_0 := blk_frozen BK659.out 0; have hfz161_1 := blk_frozen BK659.out 1; have hfz161_2 := blk_frozen BK659.out 2; obtain ⟨Ao162, co162, eo162⟩ := Kd.R_slice HO_4.out; subst eo162; have p673 : 0 ≤ ((ji37) : Int) := qD; have q673 : (ji37) < (t662.length : Int) := qD; obtain ⟨ad673, e673, hx673_0⟩ := Kd.at_bool (Kd.R_reads' HO_4.out).2.2 (ji37) p673 q673; (try rw [← Nbq40.out] at hx673_0); cases e673; have hn673_0 : ad673.block ≠ gb672 := Kd.own_blk (Kd.R_ne HO_4.out BK672.out (by decide)); have hn673_1 : ad673.block ≠ gb672 := Kd.own_blk (Kd.R_ne HO_4.out BK672.out (by decide)); have hn673_2 : ad673.block ≠ gb672 := Kd.own_blk (Kd.R_ne HO_4.out BK672.out (by decide)); replace hx673_0 := (cell_far (p := ⟨gb672, 0, none⟩) (qA hn673_0) (.int .i64 ((rd_T59 l0_1 x39_2).f0))).trans hx673_0; replace hx673_0 := (cell_far (p := ⟨gb672, 1, none⟩) (qA hn673_1) (.int .i64 ((rd_T59 l0_1 x39_2).f1))).trans hx673_0; replace hx673_0 := (cell_far (p := ⟨gb672, 2, none⟩) (qA hn673_2) (.int .i64 ((rd_T59 l0_1 x39_2).f2))).trans hx673_0; clear hn673_0; clear hn673_1; clear hn673_2; replace p673 := eq_true p673; replace q673 := eq_true q673))
               go_roundg k2
               case measure => have := HK1.out; have := HK2.out; omega
               case rel => exact ⟨(x5_2), (wrap64 (x39_2 + 1)), (x670001_2), (u670001), qS, H', ⟨by have := HK1.out; have := HK2.out; omega⟩, ⟨by (with_reducible repeat (first | apply Kd.R_alloc | apply Kd.R_drewN | apply Kd.R_drew)); exact Kd.R_mono (Kd.R_far (p := ⟨gb672, 2, none⟩) (Kd.R_far (p := ⟨gb672, 1, none⟩) (Kd.R_far (p := ⟨gb672, 0, none⟩) (Kd.R_types HO_4.out BK672.out (by decide)) (fun _ hk => hk.2) (.int .i64 ((rd_T59 l0_1 x39_2).f0))) (fun _ hk => hk.2) (.int .i64 ((rd_T59 l0_1 x39_2).f1))) (fun _ hk => hk.2) (.int .i64 ((rd_T59 l0_1 x39_2).f2))) (fun _ hk => trivial)⟩, ⟨by (with_reducible repeat (first | apply Kd.R_alloc | apply Kd.R_drewN | apply Kd.R_drew)); exact Kd.R_mono (Kd.R_far (p := ⟨gb672, 2, none⟩) (Kd.R_far (p := ⟨gb672, 1, none⟩) (Kd.R_far (p := ⟨gb672, 0, none⟩) (Kd.R_types HO_5.out BK672.out (by decide)) (fun _ hk => hk.2) (.int .i64 ((rd_T59 l0_1 x39_2).f0))) (fun _ hk => hk.2) (.int .i64 ((rd_T59 l0_1 x39_2).f1))) (fun _ hk => hk.2) (.int .i64 ((rd_T59 l0_1 x39_2).f2))) (fun _ hk => trivial)⟩, ⟨by (with_reducible repeat (first | apply Kd.R_alloc | apply Kd.R_drewN | apply Kd.R_drew)); exact Kd.R_mono (Kd.R_far (p := ⟨gb672, 2, none⟩) (Kd.R_far (p := ⟨gb672, 1, none⟩) (Kd.R_far (p := ⟨gb672, 0, none⟩) (Kd.R_mono HO_670001.out (fun k_ hk => (⟨hk, hk.2⟩ : _ ∧ k_ ≠ gb672))) (fun _ hk => hk.2) (.int .i64 ((rd_T59 l0_1 x39_2).f0))) (fun _ hk => hk.2) (.int .i64 ((rd_T59 l0_1 x39_2).f1))) (fun _ hk => hk.2) (.int .i64 ((rd_T59 l0_1 x39_2).f2))) (fun _ hk => trivial)⟩, ⟨by (with_reducible repeat (first | refine blk_drewN ?_ _ | refine blk_drew ?_ | refine blk_alloc ?_ _)); refine blk_far ?_ NB659_672.out _; (with_reducible repeat (first | refine blk_drewN ?_ _ | refine blk_drew ?_ | refine blk_alloc ?_ _)); refine blk_far ?_ NB659_672.out _; (with_reducible repeat (first | refine blk_drewN ?_ _ | refine blk_drew ?_ | refine blk_alloc ?_ _)); refine blk_far ?_ NB659_672.out _; exact qK BK659.out⟩, ⟨by (with_reducible repeat (first | refine blk_drewN ?_ _ | refine blk_drew ?_ | refine blk_alloc ?_ _)); refine blk_far ?_ NB660_672.out _; (with_reducible repeat (first | refine blk_drewN ?_ _ | refine blk_drew ?_ | refine blk_alloc ?_ _)); refine blk_far ?_ NB660_672.out _; (with_reducible repeat (first | refine blk_drewN ?_ _ | refine blk_drew ?_ | refine blk_alloc ?_ _)); refine blk_far ?_ NB660_672.out _; exact qK BK660.out⟩, ⟨by (with_reducible repeat (first | refine blk_drewN ?_ _ | refine blk_drew ?_ | refine blk_alloc ?_ _)); refine blk_far ?_ NB669_672.out _; (with_reducible repeat (first | refine blk_drewN ?_ _ | refine blk_drew ?_ | refine blk_alloc ?_ _)); refine blk_far ?_ NB669_672.out _; (with_reducible repeat (first | refine blk_drewN ?_ _ | refine blk_drew ?_ | refine blk_alloc ?_ _)); refine blk_far ?_ NB669_672.out _; exact qK BK669.out⟩, ⟨qB⟩⟩
             ·rw [if_neg c39] at H
              exact absurd H (by simp)
            ·rw [if_neg c38] at H
             exact absurd H (by simp)
           ·rw [if_neg c36] at H
            exact absurd H (by simp)
          ·rw [if_neg c35] at H
           exact absurd H (by simp)
         ·rw [if_neg c34] at H
          have c34b0 : decide (x39_2 < (l0_1.length : Int)) = false := decide_eq_false c34
          clear c34
          have H' := Aside0.mk H
          clear H
          have hnb163 := NB659_660.out
          have hnc163 := NB660_659.out
          have hnb164 := NB659_669.out
          have hnc164 := NB669_659.out
          have hcz165_0 : wr.cell? ⟨gb659, 0, none⟩ = some (.int .i64 a0_0) := (blk_cell BK659.out 0).trans rfl
          have hcz165_1 : wr.cell? ⟨gb659, 1, none⟩ = some (.slice A0_1 l0_1.length c0_1) := (blk_cell BK659.out 1).trans rfl
          have hcz165_2 : wr.cell? ⟨gb659, 2, none⟩ = some (.slice A0_2 l0_2.length c0_2) := (blk_cell BK659.out 2).trans rfl
          have hfz165_0 := blk_frozen BK659.out 0
          have hfz165_1 := blk_frozen BK659.out 1
          have hfz165_2 := blk_frozen BK659.out 2
          go_wp2
          go_loopg [88] k2 (fun kq v88 w' => ∃ (x88_3 : Int) (x670002_3 : List Int) (u670002 : Value), v88 = .int .i64 x88_3 ∧ Aside0 (impl_PruneCircuit.l2 kq x5_2 l0_2 (l0_2.length : Int) x88_3 a0_0 x670001_2 x670002_3 = some (r1, r2, r3, r4)) ∧ Aside0 (kq ≤ k2) ∧ Aside0 (Kd.R (Kd.int .i64) 3 w' w.heap.size (fun k_ => some k_ ≠ (u670002 : Value).ownBlock) v667 x5_2) ∧ Aside0 (Kd.R k59 59 w' w.heap.size (fun _ => True) u670001 x670001_2) ∧ Aside0 (Kd.R (Kd.int .i64) 3 w' w.heap.size (fun k_ => some k_ ≠ (v667 : Value).ownBlock) u670002 x670002_3) ∧ Aside0 (w'.heap[gb659]? = some (.cells #[.int .i64 a0_0, (.slice A0_1 l0_1.length c0_1), (.slice A0_2 l0_2.length c0_2)] 30 (0, 0))) ∧ Aside0 (w'.heap[gb660]? = some (.cells #[.int .i64 0, (.slice none 0 0), (.slice none 0 0)] 30 (0, 0))) ∧ Aside0 (w'.heap[gb669]? = some (.cells #[.int .i64 a0_0, u670001, u670002] 30 (0, 0))) ∧ Aside0 (Below w.heap.size w w'))
          case atStart => exact ⟨(0), (([] : List Int)), (.slice none 0 0), qS, H', ⟨Nat.le_refl _⟩, ⟨by (with_reducible repeat (first | apply Kd.R_alloc | apply Kd.R_drewN | apply Kd.R_drew)); exact Kd.R_mono HO_5.out (fun _ hk => (by simp [Value.ownBlock]))⟩, ⟨qR HO_670001.out⟩, ⟨by first | exact Kd.R_nil _ _ _ _ _ | exact Kd.N_nil _ _ _ _ _ | exact Kd.V_nil _ _ _ _ _ | exact Kd.Q_nil _ _ _ _ _ | exact Kd.S_nil _ _ _ _ _⟩, ⟨by exact qK BK659.out⟩, ⟨by exact qK BK660.out⟩, ⟨by exact qK BK669.out⟩, ⟨qB⟩⟩
          case round =>
           clear H'
           try clear c1
           try clear p1
           try clear q1
           try clear hx1
           try clear hf1
           try clear p2
           try clear c3
           try clear c4
           try clear q4
           try clear p6
           try clear q6
           try clear hx6
           try clear c9
           try clear c10
           try clear p10
           try clear q10
           try clear hx10
           try clear hf10
           try clear c11
           try clear c12
           try clear c13
           try clear p13
           try clear q13
           try clear hx13
           try clear hf13
           try clear c14
           try clear c15
           try clear c16
           try clear c34
           try clear c34b0
           try clear c35
           try clear c36
           try clear c38
           try clear c39
           try clear q40
           try clear c41
           try clear c49
           try clear p64
           try clear p67
           try clear q67
           try clear hx67
           try clear p68
           try clear q68
           try clear hx68
           try clear c97
           try clear c97b0
           try clear c98
           try clear c98b0
           try clear c99
           try clear c99b0
           try clear c100
           try clear c100b0
           try clear c101
           try clear c101b0
           try clear c103
           try clear c103b0
           try clear p104
           try clear q104
           try clear hx104
           try clear hf104
           try clear c105
           try clear c107
           try clear c108
           try clear c109
           try clear c111
           try clear c112
           try clear c122
           try clear c129
           try clear c129b0
           try clear p130
           try clear q130
           try clear hx130
           try clear hf130
           try clear c131
           try clear c133
           try clear c134
           try clear c135
           try clear c137
           try clear c138
           try clear c148
           try clear c155
           try clear c156
           try clear c157
           try clear c159
           try clear c160
           try clear c163
           try clear c164
           try clear hcz110_0
           try clear hcz110_1
           try clear hcz110_2
           try clear hcz113_0
           try clear hcz113_1
           try clear hcz113_2
           try clear hcz123_0
           try clear hcz123_1
           try clear hcz123_2
           try clear hcz124_0
           try clear hcz124_1
           try clear hcz124_2
           try clear hcz127_0
           try clear hcz127_1
           try clear hcz127_2
           try clear hcz136_0
           try clear hcz136_1
           try clear hcz136_2
           try clear hcz139_0
           try clear hcz139_1
           try clear hcz139_2
           try clear hcz149_0
           try clear hcz149_1
           try clear hcz149_2
           try clear hcz150_0
           try clear hcz150_1
           try clear hcz150_2
           try clear hcz153_0
           try clear hcz153_1
           try clear hcz153_2
           try clear hcz158_0
           try clear hcz158_1
           try clear hcz158_2
           try clear hcz161_0
           try clear hcz161_1
           try clear hcz161_2
           try clear hcz165_0
           try clear hcz165_1
           try clear hcz165_2
           try clear hfz110_0
           try clear hfz110_1
           try clear hfz110_2
           try clear hfz113_0
           try clear hfz113_1
           try clear hfz113_2
           try clear hfz123_0
           try clear hfz123_1
           try clear hfz123_2
           try clear hfz124_0
           try clear hfz124_1
           try clear hfz124_2
           try clear hfz127_0
           try clear hfz127_1
           try clear hfz127_2
           try clear hfz136_0
           try clear hfz136_1
           try clear hfz136_2
           try clear hfz139_0
           try clear hfz139_1
           try clear hfz139_2
           try clear hfz149_0
           try clear hfz149_1
           try clear hfz149_2
           try clear hfz150_0
           try clear hfz150_1
           try clear hfz150_2
           try clear hfz153_0
           try clear hfz153_1
           try clear hfz153_2
           try clear hfz158_0
           try clear hfz158_1
           try clear hfz158_2
           try clear hfz161_0
           try clear hfz161_1
           try clear hfz161_2
           try clear hfz165_0
           try clear hfz165_1
           try clear hfz165_2
           try clear hx104_0
           try clear hx130_0
           try clear hx671_0
           try clear hx671_1
           try clear hx671_2
           try clear hx673_0
           try clear hx685_0
           try clear hx686_0
           try clear p104
           try clear p130
           try clear p671
           try clear p673
           try clear p685
           try clear p686
           try clear q104
           try clear q130
           try clear q671
           try clear q673
           try clear q685
           try clear q686
           obtain ⟨x88_3, x670002_3, u670002, rfl, HA, HK3, HO_5, HO_670001, HO_670002, BK659, BK660, BK669, HB⟩ := hrel
           cases gk with
           | zero => exact absurd HA.out (by simp [impl_PruneCircuit.l2])
           | succ k3 =>
            have H := HA.out
            clear HA
            simp only [impl_PruneCircuit.l2] at H
            by_cases c166 : x88_3 < (l0_2.length : Int)
            ·rw [if_pos c166] at H
             have c166b0 : decide (x88_3 < (l0_2.length : Int)) = true := decide_eq_true c166
             clear c166
             by_cases c167 : 0 ≤ x88_3
             ·rw [if_pos c167] at H
              have c167b0 : decide (0 ≤ x88_3) = true := decide_eq_true c167
              clear c167
              by_cases c168 : x88_3 < (l0_2.length : Int)
              ·rw [if_pos c168] at H
               have c168b0 : decide (x88_3 < (l0_2.length : Int)) = true := decide_eq_true c168
               clear c168
               by_cases c169 : 0 ≤ (rd l0_2 x88_3)
               ·rw [if_pos c169] at H
                have c169b0 : decide (0 ≤ (rd l0_2 x88_3)) = true := decide_eq_true c169
                clear c169
                by_cases c170 : (rd l0_2 x88_3) < (x5_2.length : Int)
                ·rw [if_pos c170] at H
                 have c170b0 : decide ((rd l0_2 x88_3) < (x5_2.length : Int)) = true := decide_eq_true c170
                 clear c170
                 by_cases c171 : x670002_3.length < 17592186044416
                 ·rw [if_pos c171] at H
                  have LMc171 := Aside0.mk c171
                  clear c171
                  obtain ⟨y699, hy699⟩ : ∃ y_ : List Int, y_ = (x670002_3 ++ [rd x5_2 (rd l0_2 x88_3)]) := ⟨_, rfl⟩
                  replace H : (impl_PruneCircuit.l2 k3 x5_2 l0_2 (l0_2.length : Int) (wrap64 (x88_3 + 1)) a0_0 x670001_2 y699) = some (r1, r2, r3, r4) := qY hy699 H
                  have Ny699 := Aside0.mk hy699
                  clear hy699
                  have H' := Aside0.mk H
                  clear H
                  have p697 : 0 ≤ (x88_3 : Int) := qD
                  have q697 : x88_3 < (l0_2.length : Int) := qD
                  obtain ⟨ad697, e697, hx697_0⟩ := Kd.at_int HR0_2.out x88_3 p697 q697
                  cases e697
                  replace hx697_0 := (HB.out.cell (World.block_lt_of_cell? w _ hx697_0)).trans hx697_0
                  replace p697 := eq_true p697
                  replace q697 := eq_true q697
                  try go_wp2
                  have n0_ := Aside0.mk (Kd.R_drew HO_5.out)
                  have n1_ := Aside0.mk (Kd.R_drew HO_670001.out)
                  have n2_ := Aside0.mk (Kd.R_drew HO_670002.out)
                  have n3_ := Aside0.mk (blk_drew BK659.out)
                  have n4_ := Aside0.mk (blk_drew BK660.out)
                  have n5_ := Aside0.mk (blk_drew BK669.out)
                  have n6_ := Aside0.mk (below_drew1 HB.out)
                  clear HO_5
                  clear HO_670001
                  clear HO_670002
                  clear BK659
                  clear BK660
                  clear BK669
                  clear HB
                  have HO_5 := n0_
                  have HO_670001 := n1_
                  have HO_670002 := n2_
                  have BK659 := n3_
                  have BK660 := n4_
                  have BK669 := n5_
                  have HB := n6_
                  clear n0_ n1_ n2_ n3_ n4_ n5_ n6_
                  obtain ⟨Ao173, co173, eo173⟩ := Kd.R_slice HO_5.out
                  (first | subst eo173 | (injection eo173 with f1_ f2_ f3_; have f4_ := f1_.symm; have f5_ := f3_.symm; clear f1_ f2_ f3_; subst f4_; subst f5_))
                  have p698 : 0 ≤ ((rd l0_2 x88_3) : Int) := qD
                  have q698 : (rd l0_2 x88_3) < (x5_2.length : Int) := qD
                  obtain ⟨ad698, e698, hx698_0⟩ := Kd.at_int (Kd.R_reads' HO_5.out).2.2 (rd l0_2 x88_3) p698 q698
                  cases e698
                  replace p698 := eq_true p698
                  replace q698 := eq_true q698
                  refine start_ (n := 10) (S := fun w' => w'.cell? ⟨gb669, 0, none⟩ = some (.int .i64 a0_0) ∧ w'.cell? ⟨gb669, 1, none⟩ = some (u670001) ∧ w'.cell? ⟨gb669, 2, none⟩ = some (u670002) ∧ w'.cell? (ad698.add ((rd l0_2 x88_3)).toNat) = some (.int .i64 (rd x5_2 (rd l0_2 x88_3)))) (ds := [7, 9]) #[false, false, false, false, false, false, false, false, false, false] (by kernel_rfl) rfl rfl ⟨(blk_cell BK669.out 0).trans rfl, (blk_cell BK669.out 1).trans rfl, (blk_cell BK669.out 2).trans rfl, hx698_0⟩ (fun hHeld => ?_); refine with_tabW impl_PruneCircuit.tab23 impl_PruneCircuit.bits23 (fun HT_ HW_ => ?_)
                  generalize wr.drew = w172 at HO_5 HO_670001 HO_670002 BK659 BK660 BK669 HB hx698_0 hHeld ⊢
                  refine pure_ (i := 0) (N := some 92) (v := ?_) (a' := ?_) #[true, false, false, false, false, false, false, false, false, false] rfl rfl (any_of HT_.out (by kernel_rfl)) (fun _ _ _ h => h) (Or.inl ⟨by rfl, ?_⟩) ?_ ?_
                  rotate_left
                  ·intro w'
                   go_simp
                   with_reducible rfl
                  rotate_left
                  ·simp only [Act.put, List.setIfInBounds_toArray, List.set_cons_zero, List.set_cons_succ, i64_w, i32_w]
                   rfl
                  refine pure_ (i := 2) (N := some 94) (v := ?_) (a' := ?_) #[true, false, true, false, false, false, false, false, false, false] rfl rfl (any_of HT_.out (by kernel_rfl)) (fun _ _ _ h => h) (Or.inl ⟨by rfl, ?_⟩) ?_ ?_
                  rotate_left
                  ·intro w'
                   go_simp
                   with_reducible rfl
                  rotate_left
                  ·simp only [Act.put, List.setIfInBounds_toArray, List.set_cons_zero, List.set_cons_succ, i64_w, i32_w]
                   rfl
                  refine pure_ (i := 3) (N := some 95) (v := ?_) (a' := ?_) #[true, false, true, true, false, false, false, false, false, false] rfl rfl (any_of HT_.out (by kernel_rfl)) (fun _ _ _ h => h) (Or.inl ⟨by rfl, ?_⟩) ?_ ?_
                  rotate_left
                  ·intro w'
                   go_simp
                   with_reducible rfl
                  rotate_left
                  ·simp only [Act.put, List.setIfInBounds_toArray, List.set_cons_zero, List.set_cons_succ, i64_w, i32_w]
                   rfl
                  refine pure_ (i := 4) (N := some 96) (v := ?_) (a' := ?_) #[true, false, true, true, true, false, false, false, false, false] rfl rfl (any_of HT_.out (by kernel_rfl)) (fun _ _ _ h => h) (Or.inl ⟨by rfl, ?_⟩) ?_ ?_
                  rotate_left
                  ·intro w'
                   go_simp
                   with_reducible rfl
                  rotate_left
                  ·simp only [Act.put, List.setIfInBounds_toArray, List.set_cons_zero, List.set_cons_succ, i64_w, i32_w]
                   rfl
                  refine take_ (i := 1) (N := some 93) (v := ?_) (a' := ?_) #[true, true, true, true, true, false, false, false, false, false] rfl rfl (take_ofW HT_.out HW_.out (by kernel_rfl)) (fun _ _ _ h => h) (Or.inl ⟨by rfl, ?_⟩) hHeld ?_ ?_
                  rotate_left
                  ·rintro w' ⟨s0, s1, s2, s3⟩
                   go_simp
                   with_reducible rfl
                  rotate_left
                  ·simp only [Act.put, List.setIfInBounds_toArray, List.set_cons_zero, List.set_cons_succ, i64_w, i32_w]
                   rfl
                  refine take_ (i := 5) (N := some 97) (v := ?_) (a' := ?_) #[true, true, true, true, true, true, false, false, false, false] rfl rfl (take_ofW HT_.out HW_.out (by kernel_rfl)) (fun _ _ _ h => h) (Or.inl ⟨by rfl, ?_⟩) hHeld ?_ ?_
                  rotate_left
                  ·rintro w' ⟨s0, s1, s2, s3⟩
                   go_simp
                   with_reducible rfl
                  rotate_left
                  ·simp only [Act.put, List.setIfInBounds_toArray, List.set_cons_zero, List.set_cons_succ, i64_w, i32_w]
                   rfl
                  refine one_ (i := 6) (N := some 98) #[true, true, true, true, true, true, true, false, false, false] rfl rfl (one_of HT_.out (by kernel_rfl)) (by decide) (fun K hK => ?_)
                  refine value_ (w1 := ?_) (v := ?_) (by rfl) rfl ?_ ?_
                  rotate_left 2
                  ·go_simp
                   constructor
                   ·rfl
                   ·rfl
                  refine hK.out _ _ ⟨(blk_cell (blk_alloc BK669.out _) 0).trans rfl, (blk_cell (blk_alloc BK669.out _) 1).trans rfl, (blk_cell (blk_alloc BK669.out _) 2).trans rfl, (World.cell?_alloc_lt _ _ _ (World.block_lt_of_cell? _ _ (hHeld.2.2.2))).trans (hHeld.2.2.2)⟩ (fun hHeld => ?_)
                  clear hK K
                  refine norm_ (a' := ?_) ?_ ?_
                  rotate_left
                  ·show Act.put _ (some 98) _ = _
                   simp only [Act.put, List.setIfInBounds_toArray, List.set_cons_zero, List.set_cons_succ, i64_w, i32_w]
                   rfl
                  refine last_ (i := 7) (N := some 99) #[true, true, true, true, true, true, true, true, false, false] rfl rfl (one_of HT_.out (by kernel_rfl)) (by decide) (fun K hK => ?_)
                  refine Kd.R_append_step (Kd.int .i64) (w0 := w) w.heap.size (by rfl) (.tmp 93) (.tmp 98) 23 3 (.int .i64 0) 8 rfl Try.underlying23 info3 rfl (by decide) (by omega) u670002 x670002_3 (rd x5_2 (rd l0_2 x88_3)) [.int .i64 (rd x5_2 (rd l0_2 x88_3))] (fun k_ => some k_ ≠ (.slice (some ad698) x5_2.length co173 : Value).ownBlock) (fun _ => False) rfl rfl ?aP (fun _ hk => hk.elim) ?aF ?aO ?aB ?aS ?aL ?_
                  (case aP => exact rfl)
                  (case aB => exact (qB))
                  (case aF => exact (fun k_ hk => Kd.fresh' (Kd.R_lt (qR HO_5.out)) k_ hk))
                  (case aO => exact (qR HO_670002.out))
                  (case aS => exact (below_size (qB)))
                  (case aL => have := LMc171.out; omega)
                  intro v700 w174 ho hb hg hat
                  rw [← Ny699.out] at ho
                  have n0_ := Aside0.mk (Kd.R_after (ok := (fun _ => True)) (by (with_reducible repeat (first | apply Kd.R_alloc | apply Kd.R_drewN | apply Kd.R_drew)); exact Kd.R_mono HO_5.out (fun _ hk => ⟨trivial, hk⟩)) hg hat)
                  have n1_ := Aside0.mk (Kd.R_over' (qR HO_670001.out) (Kd.R_typed (qR HO_670002.out)) (by decide) hg)
                  have n2_ := Aside0.mk (blk_grown (g := gb659) (o := .cells #[.int .i64 a0_0, .slice A0_1 l0_1.length c0_1, .slice (some ad697) l0_2.length c0_2] 30 (0, 0)) (qK BK659.out) hg (Kd.R_ne HO_670002.out BK659.out (by decide)))
                  have n3_ := Aside0.mk (blk_grown (g := gb660) (o := .cells #[.int .i64 0, .slice none 0 0, .slice none 0 0] 30 (0, 0)) (qK BK660.out) hg (Kd.R_ne HO_670002.out BK660.out (by decide)))
                  have n4_ := Aside0.mk (blk_grown (g := gb669) (o := .cells #[.int .i64 a0_0, u670001, u670002] 30 (0, 0)) (qK BK669.out) hg (Kd.R_ne HO_670002.out BK669.out (by decide)))
                  have n5_ := Aside0.mk (hb)
                  have n6_ := Aside0.mk (ho)
                  clear HO_5
                  clear HO_670001
                  clear BK659
                  clear BK660
                  clear BK669
                  clear HB
                  clear HO_670002
                  have HO_5 := n0_
                  have HO_670001 := n1_
                  have BK659 := n2_
                  have BK660 := n3_
                  have BK669 := n4_
                  have HB := n5_
                  have HO701 := n6_
                  clear n0_ n1_ n2_ n3_ n4_ n5_ n6_
                  clear ho hb hg hat
                  obtain ⟨Ao175, co175, eo175⟩ := Kd.R_slice HO701.out
                  (first | subst eo175 | (injection eo175 with f1_ f2_ f3_; have f4_ := f1_.symm; have f5_ := f3_.symm; clear f1_ f2_ f3_; subst f4_; subst f5_))
                  refine hK.out _ _ ?_
                  clear hK K
                  refine norm_ (a' := ?_) ?_ ?_
                  rotate_left
                  ·show Act.put _ (some 99) _ = _
                   simp only [Act.put, List.setIfInBounds_toArray, List.set_cons_zero, List.set_cons_succ, i64_w, i32_w]
                   rfl
                  refine pure_ (i := 8) (N := some 100) (v := ?_) (a' := ?_) #[true, true, true, true, true, true, true, true, true, false] rfl rfl (any_of HT_.out (by kernel_rfl)) (fun _ _ _ h => h) (Or.inl ⟨by rfl, ?_⟩) ?_ ?_
                  rotate_left
                  ·intro w'
                   go_simp
                   with_reducible rfl
                  rotate_left
                  ·simp only [Act.put, List.setIfInBounds_toArray, List.set_cons_zero, List.set_cons_succ, i64_w, i32_w]
                   rfl
                  refine last_ (i := 9) (N := none) #[true, true, true, true, true, true, true, true, true, true] rfl rfl (one_of HT_.out (by kernel_rfl)) (by decide) (fun K hK => ?_)
                  have hs176 : w174.cell? ⟨gb669, 2, none⟩ = some (u670002) := (blk_cell BK669.out 2).trans rfl
                  have hfs176 := blk_frozen BK669.out 2
                  have hns176_0 := NB659_669.out
                  have hns176_1 := NB660_669.out
                  have hms176_0 := NB669_659.out
                  have hms176_1 := NB669_660.out
                  refine skip_ (w1 := ?_) (by rfl) rfl ?_ ?_
                  rotate_left
                  ·go_simp
                   rfl
                  refine hK.out _ _ ?_
                  clear hK K
                  refine done_ (done_of HT_.out (by kernel_rfl)) ?_
                  try go_wp2
                  go_roundg k3
                  case measure => have := HK1.out; have := HK2.out; have := HK3.out; omega
                  case rel => exact ⟨(wrap64 (x88_3 + 1)), (y699), (.slice Ao175 y699.length co175), qS, H', ⟨by have := HK1.out; have := HK2.out; have := HK3.out; omega⟩, ⟨by (with_reducible repeat (first | apply Kd.R_alloc | apply Kd.R_drewN | apply Kd.R_drew)); exact Kd.R_mono (Kd.R_far (p := ⟨gb669, 2, none⟩) (Kd.R_types HO_5.out BK669.out (by decide)) (fun _ hk => hk.2) (.slice Ao175 y699.length co175)) (fun _ hk => hk.1.2)⟩, ⟨by (with_reducible repeat (first | apply Kd.R_alloc | apply Kd.R_drewN | apply Kd.R_drew)); exact Kd.R_mono (Kd.R_far (p := ⟨gb669, 2, none⟩) (Kd.R_types HO_670001.out BK669.out (by decide)) (fun _ hk => hk.2) (.slice Ao175 y699.length co175)) (fun _ hk => trivial)⟩, ⟨by (with_reducible repeat (first | apply Kd.R_alloc | apply Kd.R_drewN | apply Kd.R_drew)); exact Kd.R_mono (Kd.R_far (p := ⟨gb669, 2, none⟩) (Kd.R_types HO701.out BK669.out (by decide)) (fun _ hk => hk.2) (.slice Ao175 y699.length co175)) (fun _ hk => hk.1)⟩, ⟨by (with_reducible repeat (first | refine blk_drewN ?_ _ | refine blk_drew ?_ | refine blk_alloc ?_ _)); refine blk_far ?_ NB659_669.out _; exact qK BK659.out⟩, ⟨by (with_reducible repeat (first | refine blk_drewN ?_ _ | refine blk_drew ?_ | refine blk_alloc ?_ _)); refine blk_far ?_ NB660_669.out _; exact qK BK660.out⟩, ⟨by (with_reducible repeat (first | refine blk_drewN ?_ _ | refine blk_drew ?_ | refine blk_alloc ?_ _)); refine blk_put (cs := #[.int .i64 a0_0, u670001, u670002]) ?_ 2 _ rfl; exact qK BK669.out⟩, ⟨qB⟩⟩
                 ·rw [if_neg c171] at H
                  exact absurd H (by simp)
                ·rw [if_neg c170] at H
                 exact absurd H (by simp)
               ·rw [if_neg c169] at H
                exact absurd H (by simp)
              ·rw [if_neg c168] at H
               exact absurd H (by simp)
             ·rw [if_neg c167] at H
              exact absurd H (by simp)
            ·rw [if_neg c166] at H
             have c166b0 : decide (x88_3 < (l0_2.length : Int)) = false := decide_eq_false c166
             clear c166
             simp only [Option.some.injEq, Prod.mk.injEq] at H
             obtain ⟨rfl, rfl, rfl, rfl⟩ := H
             have hnb177 := NB669_659.out
             have hnc177 := NB659_669.out
             have hnb178 := NB669_660.out
             have hnc178 := NB660_669.out
             have hcz179_0 : wr.cell? ⟨gb669, 0, none⟩ = some (.int .i64 a0_0) := (blk_cell BK669.out 0).trans rfl
             have hcz179_1 : wr.cell? ⟨gb669, 1, none⟩ = some (u670001) := (blk_cell BK669.out 1).trans rfl
             have hcz179_2 : wr.cell? ⟨gb669, 2, none⟩ = some (u670002) := (blk_cell BK669.out 2).trans rfl
             have hfz179_0 := blk_frozen BK669.out 0
             have hfz179_1 := blk_frozen BK669.out 1
             have hfz179_2 := blk_frozen BK669.out 2
             have hnb180 := NB660_659.out
             have hnc180 := NB659_660.out
             have hcz181_0 : wr.cell? ⟨gb660, 0, none⟩ = some (.int .i64 0) := (blk_cell BK660.out 0).trans rfl
             have hcz181_1 : wr.cell? ⟨gb660, 1, none⟩ = some (.slice none 0 0) := (blk_cell BK660.out 1).trans rfl
             have hcz181_2 : wr.cell? ⟨gb660, 2, none⟩ = some (.slice none 0 0) := (blk_cell BK660.out 2).trans rfl
             have hfz181_0 := blk_frozen BK660.out 0
             have hfz181_1 := blk_frozen BK660.out 1
             have hfz181_2 := blk_frozen BK660.out 2
             obtain ⟨Ao182, co182, eo182⟩ := Kd.R_slice HO_670001.out
             subst eo182
             obtain ⟨Ao183, co183, eo183⟩ := Kd.R_slice HO_670002.out
             subst eo183
             go_wp2
             refine bodyPost_ret (results_ct rfl _ _ gb660 30 #[.int .i64 a0_0, .slice Ao182 x670001_2.length co182, .slice Ao183 x670002_3.length co183] (0, 0) _ rfl (by (with_reducible repeat (first | refine blk_drewN ?_ _ | refine blk_drew ?_ | refine blk_alloc ?_ _)); refine blk_put (cs := #[.int .i64 a0_0, .slice Ao182 x670001_2.length co182, .slice none 0 0]) ?_ 2 _ rfl; refine blk_put (cs := #[.int .i64 a0_0, .slice none 0 0, .slice none 0 0]) ?_ 1 _ rfl; refine blk_put (cs := #[.int .i64 0, .slice none 0 0, .slice none 0 0]) ?_ 0 _ rfl; exact qK BK660.out) Try.underlying30 rfl (by kernel_rfl)) rfl ?_
             exact ⟨_, _, qE, by (with_reducible repeat (first | apply Kd.R_alloc | apply Kd.R_drewN | apply Kd.R_drew)); exact Kd.R_mono (Kd.R_far (p := ⟨gb660, 2, none⟩) (Kd.R_far (p := ⟨gb660, 1, none⟩) (Kd.R_far (p := ⟨gb660, 0, none⟩) (Kd.R_types HO_670001.out BK660.out (by decide)) (fun _ hk => hk.2) (.int .i64 a0_0)) (fun _ hk => hk.2) (.slice Ao182 x670001_2.length co182)) (fun _ hk => hk.2) (.slice Ao183 x670002_3.length co183)) (fun _ hk => trivial), by (with_reducible repeat (first | apply Kd.R_alloc | apply Kd.R_drewN | apply Kd.R_drew)); exact Kd.R_mono (Kd.R_far (p := ⟨gb660, 2, none⟩) (Kd.R_far (p := ⟨gb660, 1, none⟩) (Kd.R_far (p := ⟨gb660, 0, none⟩) (Kd.R_types HO_670002.out BK660.out (by decide)) (fun _ hk => hk.2) (.int .i64 a0_0)) (fun _ hk => hk.2) (.slice Ao182 x670001_2.length co182)) (fun _ hk => hk.2) (.slice Ao183 x670002_3.length co183)) (fun _ hk => trivial), qB⟩
   ·rw [if_neg c7] at H
    exact absurd H (by simp)
  ·rw [if_neg c6] at H
   exact absurd H (by simp)
 ·replace c3 := Bool.eq_false_iff.mpr c3
  subst c3
  have H1 : (some (0, ([] : List (S59)), ([] : List Int), false)) = some (r1, r2, r3, r4) := by rw [if_neg (show ¬ (false = true) by decide)] at H; exact H
  clear H
  have H := H1
  clear H1
  simp only [Option.some.injEq, Prod.mk.injEq] at H
  obtain ⟨rfl, rfl, rfl, rfl⟩ := H
  go_enter Try.func31, Try.ntmps31
  go_wp2_with (first | ((with_reducible refine gate_dst (N := 1) rfl ?_); refine box_event ?hg (N := 1) ?hd (cs := #[.int .i64 a0_0, .slice A0_1 l0_1.length c0_1, .slice A0_2 l0_2.length c0_2]) (t := 30) ?hr ?_; (case hd => rfl); (case hg => rfl); (case hr => first | (go_simp; done) | (go_simp; rfl)); intro gb659 hg w184 hbox hb; have n0_ := Aside0.mk (below_step (qB) hb); have n1_ := Aside0.mk (hbox); have n2_ := Aside0.mk ((by rw [hg]; exact (below_size (qB)) : w.heap.size ≤ gb659)); have n3_ := Aside0.mk ((by rw [hg]; exact (below_size (qB)) : w.heap.size ≤ gb659)); clear HB; have HB := n0_; have BK659 := n1_; have GW659 := n2_; have GE659 := n3_; clear n0_ n1_ n2_ n3_; clear hb hbox hg) | ((with_reducible refine gate_dst (N := 2) rfl ?_); refine box_event ?hg (N := 2) ?hd (cs := #[.int .i64 0, .slice none 0 0, .slice none 0 0]) (t := 30) ?hr ?_; (case hd => rfl); (case hg => rfl); (case hr => first | (go_simp; done) | (go_simp; rfl)); intro gb660 hg w185 hbox hb; have n0_ := Aside0.mk (blk_below (g := gb659) (o := .cells #[.int .i64 a0_0, .slice A0_1 l0_1.length c0_1, .slice A0_2 l0_2.length c0_2] 30 (0, 0)) (qK BK659.out) hb); have n1_ := Aside0.mk (below_step (qB) hb); have n2_ := Aside0.mk (hbox); have n3_ := Aside0.mk ((by rw [hg]; exact (below_size (qB)) : w.heap.size ≤ gb660)); have n4_ := Aside0.mk ((by rw [hg]; exact (below_size (qB)) : w.heap.size ≤ gb660)); have n5_ := Aside0.mk ((by rw [hg]; exact Nat.ne_of_lt (blk_lt (g := gb659) (o := .cells #[.int .i64 a0_0, .slice A0_1 l0_1.length c0_1, .slice A0_2 l0_2.length c0_2] 30 (0, 0)) (qK BK659.out)) : gb659 ≠ gb660)); have n6_ := Aside0.mk ((by rw [hg]; exact Nat.ne_of_gt (blk_lt (g := gb659) (o := .cells #[.int .i64 a0_0, .slice A0_1 l0_1.length c0_1, .slice A0_2 l0_2.length c0_2] 30 (0, 0)) (qK BK659.out)) : gb660 ≠ gb659)); clear BK659; clear HB; have BK659 := n0_; have HB := n1_; have BK660 := n2_; have GW660 := n3_; have GE660 := n4_; have NB659_660 := n5_; have NB660_659 := n6_; clear n0_ n1_ n2_ n3_ n4_ n5_ n6_; clear hb hbox hg; have hnb186 := NB659_660.out; have hnc186 := NB660_659.out; have hcz187_0 : w185.cell? ⟨gb659, 0, none⟩ = some (.int .i64 a0_0) := (blk_cell BK659.out 0).trans rfl; have hcz187_1 : w185.cell? ⟨gb659, 1, none⟩ = some (.slice A0_1 l0_1.length c0_1) := (blk_cell BK659.out 1).trans rfl; have hcz187_2 : w185.cell? ⟨gb659, 2, none⟩ = some (.slice A0_2 l0_2.length c0_2) := (blk_cell BK659.out 2).trans rfl; have hfz187_0 := blk_frozen BK659.out 0; have hfz187_1 := blk_frozen BK659.out 1; have hfz187_2 := blk_frozen BK659.out 2) | ((with_reducible refine gate_callee (f := 14) rfl ?_); refine goesL_ (some 13) rfl rfl Try.func14 (by kernel_rfl) rfl #[.agg #[.int .i64 a0_0, .slice A0_1 l0_1.length c0_1, .slice A0_2 l0_2.length c0_2]] rfl qG ?_; (with_reducible refine (impl_GoodCircuit.calls k a0_0 _ _ l0_1 _ _ l0_2 false _ ?side1 ?side2 ?side3 ?side4 A2.out).mono ?_); (case side1 => exact qC (Kd.C_below HR0_1.out HB.out)); (case side2 => exact HC0_1.out); (case side3 => exact qC (Kd.C_below HR0_2.out HB.out)); (case side4 => exact HC0_2.out); rintro e w188 ⟨rfl, hb⟩; refine ⟨_, rfl, ?_⟩; have n0_ := Aside0.mk (blk_below (g := gb659) (o := .cells #[.int .i64 a0_0, .slice A0_1 l0_1.length c0_1, .slice A0_2 l0_2.length c0_2] 30 (0, 0)) (qK BK659.out) hb); have n1_ := Aside0.mk (blk_below (g := gb660) (o := .cells #[.int .i64 0, .slice none 0 0, .slice none 0 0] 30 (0, 0)) (qK BK660.out) hb); have n2_ := Aside0.mk (below_step (qB) hb); clear BK659; clear BK660; clear HB; have BK659 := n0_; have BK660 := n1_; have HB := n2_; clear n0_ n1_ n2_; (try clear hb); (try clear hb2); (try clear hk); (try clear hi); have hcz189_0 : w188.cell? ⟨gb660, 0, none⟩ = some (.int .i64 0) := (blk_cell BK660.out 0).trans rfl; have hcz189_1 : w188.cell? ⟨gb660, 1, none⟩ = some (.slice none 0 0) := (blk_cell BK660.out 1).trans rfl; have hcz189_2 : w188.cell? ⟨gb660, 2, none⟩ = some (.slice none 0 0) := (blk_cell BK660.out 2).trans rfl; have hfz189_0 := blk_frozen BK660.out 0; have hfz189_1 := blk_frozen BK660.out 1; have hfz189_2 := blk_frozen BK660.out 2))
  refine bodyPost_ret (results_ct rfl _ _ gb660 30 #[.int .i64 0, .slice none 0 0, .slice none 0 0] (0, 0) _ rfl (by (with_reducible repeat (first | refine blk_drewN ?_ _ | refine blk_drew ?_ | refine blk_alloc ?_ _)); refine blk_put (cs := #[.int .i64 0, .slice none 0 0, .slice none 0 0]) ?_ 2 _ rfl; refine blk_put (cs := #[.int .i64 0, .slice none 0 0, .slice none 0 0]) ?_ 1 _ rfl; refine blk_put (cs := #[.int .i64 0, .slice none 0 0, .slice none 0 0]) ?_ 0 _ rfl; exact qK BK660.out) Try.underlying30 rfl (by kernel_rfl)) rfl ?_
  exact ⟨_, _, qE, by first | exact Kd.R_nil _ _ _ _ _ | exact Kd.N_nil _ _ _ _ _ | exact Kd.V_nil _ _ _ _ _ | exact Kd.Q_nil _ _ _ _ _ | exact Kd.S_nil _ _ _ _ _, by first | exact Kd.R_nil _ _ _ _ _ | exact Kd.N_nil _ _ _ _ _ | exact Kd.V_nil _ _ _ _ _ | exact Kd.Q_nil _ _ _ _ _ | exact Kd.S_nil _ _ _ _ _, qB⟩

end Go.Proofs.Ytimkjhdopncimaa.X
