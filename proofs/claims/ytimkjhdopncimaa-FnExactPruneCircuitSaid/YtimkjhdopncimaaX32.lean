/- Go functions as Lean functions, each with the proof that its call comes to just its answer. Conditions: the arguments are of their kinds. -/
import Derived.Test.YtimkjhdopncimaaX0
import Derived.Test.YtimkjhdopncimaaX1
import Derived.Test.YtimkjhdopncimaaX4
import Derived.Test.YtimkjhdopncimaaX24
import Derived.Test.YtimkjhdopncimaaX26
namespace Go.Proofs.Ytimkjhdopncimaa.X
open Go.RowKit Go.Proofs.YtimkjhdopncimaaW.PrintWords Go.Proofs.YtimkjhdopncimaaW.PrintLast Go.Proofs.YtimkjhdopncimaaW.PrintMore
attribute [local go_sem] max2_int min2_int max_two min_two max_three min_three max_four min_four   -- for this text's walks alone
set_option linter.unusedVariables false
set_option linter.unusedSimpArgs false

abbrev bX32_0 : Array Bool := #[false, false, false, false, false, false, false, false, false]
abbrev bX32_1 : Array Bool := #[true, false, false, false, false, false, false, false, false]
abbrev bX32_2 : Array Bool := #[true, true, false, false, false, false, false, false, false]
abbrev bX32_3 : Array Bool := #[true, true, false, true, false, false, false, false, false]
abbrev bX32_4 : Array Bool := #[true, true, true, true, false, false, false, false, false]
abbrev bX32_5 : Array Bool := #[true, true, true, true, true, false, false, false, false]
abbrev bX32_6 : Array Bool := #[true, true, true, true, true, true, false, false, false]
abbrev bX32_7 : Array Bool := #[true, true, true, true, true, true, true, false, false]
abbrev bX32_8 : Array Bool := #[true, true, true, true, true, true, true, true, false]
abbrev bX32_9 : Array Bool := #[true, true, true, true, true, true, true, true, true]
/-! ### spec_PruneCircuit: function 30 -/
mutual
def spec_PruneCircuit.l0 : Nat → List Int → Int → Int → List (S59) → List Int → Int → Option (Int × (List (S59)) × List Int × Bool)
 | 0, _, _, _, _, _, _ => none
 | k + 1, x5, x6, x617000, x617001, x617002, x620000 => if x6 < x617000 then (if 0 ≤ x6 then (if x6 < (x5.length : Int) then (spec_PruneCircuit.l0 k (x5.set (x6 : Int).toNat x6) (wrap64 (x6 + 1)) x617000 x617001 x617002 x620000) else (none)) else (none)) else ((spec_l4Cone.f k x617000 x617001 x617002 x617002).bind fun t625 => (spec_PruneCircuit.l1 k x5 t625 x617001 (x617001.length : Int) 0 x617000 x617001 x617002 x620000 ([] : List (S59))))
def spec_PruneCircuit.l1 : Nat → List Int → List Int → List (S59) → Int → Int → Int → List (S59) → List Int → Int → List (S59) → Option (Int × (List (S59)) × List Int × Bool)
 | 0, _, _, _, _, _, _, _, _, _, _ => none
 | k + 1, x5, x7, x37, x38, x39, x617000, x617001, x617002, x620000, x620001 => if x39 < x38 then (if 0 ≤ x39 then (if x39 < (x37.length : Int) then ((spec_l1Has.f k x7 (wrap64 (x617000 + x39))).bind fun t630 => (if t630 = true then (if ((rd_T59 x37 x39).f0) = 1 then (if ((rd_T59 x37 x39).f0) > 2 then (if 0 ≤ ((rd_T59 x37 x39).f2) then (if ((rd_T59 x37 x39).f2) < (x5.length : Int) then ((spec_l4Wires.f x620000 x620001 ([] : List Int)).bind fun t632 => (if 0 ≤ (wrap64 (x617000 + x39)) then (if (wrap64 (x617000 + x39)) < (x5.length : Int) then (if x620001.length < 5864062014805 then (spec_PruneCircuit.l1 k (x5.set ((wrap64 (x617000 + x39)) : Int).toNat t632) x7 x37 x38 (wrap64 (x39 + 1)) x617000 x617001 x617002 x620000 (x620001 ++ [(⟨(rd_T59 x37 x39).f0, (rd_T59 x37 x39).f1, rd x5 ((rd_T59 x37 x39).f2)⟩ : S59)])) else (none)) else (none)) else (none))) else (none)) else (none)) else ((spec_l4Wires.f x620000 x620001 ([] : List Int)).bind fun t637 => (if 0 ≤ (wrap64 (x617000 + x39)) then (if (wrap64 (x617000 + x39)) < (x5.length : Int) then (if x620001.length < 5864062014805 then (spec_PruneCircuit.l1 k (x5.set ((wrap64 (x617000 + x39)) : Int).toNat t637) x7 x37 x38 (wrap64 (x39 + 1)) x617000 x617001 x617002 x620000 (x620001 ++ [(⟨(rd_T59 x37 x39).f0, (rd_T59 x37 x39).f1, (rd_T59 x37 x39).f2⟩ : S59)])) else (none)) else (none)) else (none)))) else (if 0 ≤ ((rd_T59 x37 x39).f1) then (if ((rd_T59 x37 x39).f1) < (x5.length : Int) then (if ((rd_T59 x37 x39).f0) > 2 then (if 0 ≤ ((rd_T59 x37 x39).f2) then (if ((rd_T59 x37 x39).f2) < (x5.length : Int) then ((spec_l4Wires.f x620000 x620001 ([] : List Int)).bind fun t644 => (if 0 ≤ (wrap64 (x617000 + x39)) then (if (wrap64 (x617000 + x39)) < (x5.length : Int) then (if x620001.length < 5864062014805 then (spec_PruneCircuit.l1 k (x5.set ((wrap64 (x617000 + x39)) : Int).toNat t644) x7 x37 x38 (wrap64 (x39 + 1)) x617000 x617001 x617002 x620000 (x620001 ++ [(⟨(rd_T59 x37 x39).f0, rd x5 ((rd_T59 x37 x39).f1), rd x5 ((rd_T59 x37 x39).f2)⟩ : S59)])) else (none)) else (none)) else (none))) else (none)) else (none)) else ((spec_l4Wires.f x620000 x620001 ([] : List Int)).bind fun t649 => (if 0 ≤ (wrap64 (x617000 + x39)) then (if (wrap64 (x617000 + x39)) < (x5.length : Int) then (if x620001.length < 5864062014805 then (spec_PruneCircuit.l1 k (x5.set ((wrap64 (x617000 + x39)) : Int).toNat t649) x7 x37 x38 (wrap64 (x39 + 1)) x617000 x617001 x617002 x620000 (x620001 ++ [(⟨(rd_T59 x37 x39).f0, rd x5 ((rd_T59 x37 x39).f1), (rd_T59 x37 x39).f2⟩ : S59)])) else (none)) else (none)) else (none)))) else (none)) else (none))) else (spec_PruneCircuit.l1 k x5 x7 x37 x38 (wrap64 (x39 + 1)) x617000 x617001 x617002 x620000 x620001))) else (none)) else (none)) else (spec_PruneCircuit.l2 k x5 x617002 (x617002.length : Int) 0 x620000 x620001 ([] : List Int))
def spec_PruneCircuit.l2 : Nat → List Int → List Int → Int → Int → Int → List (S59) → List Int → Option (Int × (List (S59)) × List Int × Bool)
 | 0, _, _, _, _, _, _, _ => none
 | k + 1, x5, x85, x86, x87, x620000, x620001, x620002 => if x87 < x86 then (if 0 ≤ x87 then (if x87 < (x85.length : Int) then (if 0 ≤ (rd x85 x87) then (if (rd x85 x87) < (x5.length : Int) then (if x620002.length < 17592186044416 then (spec_PruneCircuit.l2 k x5 x85 x86 (wrap64 (x87 + 1)) x620000 x620001 (x620002 ++ [rd x5 (rd x85 x87)])) else (none)) else (none)) else (none)) else (none)) else (none)) else (some (x620000, x620001, x620002, true))
end
def spec_PruneCircuit.f (k : Nat) (a0_0 : Int) (l0_1 : List (S59)) (l0_2 : List Int) : Option (Int × (List (S59)) × List Int × Bool) := (spec_GoodCircuit.f k a0_0 l0_1 l0_2).bind fun t618 => (if t618 = true then ((spec_l4Wires.f a0_0 l0_1 l0_2).bind fun t620 => (if 0 ≤ t620 then (if (t620 : Int).toNat ≤ 35184372088832 then (spec_PruneCircuit.l0 k (List.replicate (t620 : Int).toNat 0) 0 a0_0 l0_1 l0_2 a0_0) else (none)) else (none))) else (some (0, ([] : List (S59)), ([] : List Int), false)))
theorem spec_PruneCircuit.mono_l : ∀ k, (∀ y0 y1 y2 y3 y4 y5, LeO (spec_PruneCircuit.l0 k y0 y1 y2 y3 y4 y5) (spec_PruneCircuit.l0 (k + 1) y0 y1 y2 y3 y4 y5)) ∧ (∀ y0 y1 y2 y3 y4 y5 y6 y7 y8 y9, LeO (spec_PruneCircuit.l1 k y0 y1 y2 y3 y4 y5 y6 y7 y8 y9) (spec_PruneCircuit.l1 (k + 1) y0 y1 y2 y3 y4 y5 y6 y7 y8 y9)) ∧ (∀ y0 y1 y2 y3 y4 y5 y6, LeO (spec_PruneCircuit.l2 k y0 y1 y2 y3 y4 y5 y6) (spec_PruneCircuit.l2 (k + 1) y0 y1 y2 y3 y4 y5 y6))
 | 0 => ⟨fun _ _ _ _ _ _ r h => by simp [spec_PruneCircuit.l0] at h, fun _ _ _ _ _ _ _ _ _ _ r h => by simp [spec_PruneCircuit.l1] at h, fun _ _ _ _ _ _ _ r h => by simp [spec_PruneCircuit.l2] at h⟩
 | k + 1 => by
  obtain ⟨ih0, ih1, ih2⟩ := spec_PruneCircuit.mono_l k
  refine ⟨?_, ?_, ?_⟩
  ·intro y0 y1 y2 y3 y4 y5
   unfold spec_PruneCircuit.l0
   repeat' first
   | (with_reducible exact ih0 _ _ _ _ _ _)
   | (with_reducible exact ih1 _ _ _ _ _ _ _ _ _ _)
   | (with_reducible exact ih2 _ _ _ _ _ _ _)
   | (with_reducible exact spec_GoodCircuit.mono _ _ _ _)
   | (with_reducible exact spec_l1Has.mono _ _ _)
   | (with_reducible exact spec_l4Cone.mono _ _ _ _ _)
   | (with_reducible first | exact LeO.refl _ | exact LeO.none _ | refine LeO.ite ?_ ?_ | refine LeO.bind ?_ (fun _ => ?_))
   | exact ih0 _ _ _ _ _ _
   | exact ih1 _ _ _ _ _ _ _ _ _ _
   | exact ih2 _ _ _ _ _ _ _
   | exact spec_GoodCircuit.mono _ _ _ _
   | exact spec_l1Has.mono _ _ _
   | exact spec_l4Cone.mono _ _ _ _ _
   | exact LeO.none _ | refine LeO.ite ?_ ?_ | refine LeO.bind ?_ (fun _ => ?_)
  ·intro y0 y1 y2 y3 y4 y5 y6 y7 y8 y9
   unfold spec_PruneCircuit.l1
   repeat' first
   | (with_reducible exact ih0 _ _ _ _ _ _)
   | (with_reducible exact ih1 _ _ _ _ _ _ _ _ _ _)
   | (with_reducible exact ih2 _ _ _ _ _ _ _)
   | (with_reducible exact spec_GoodCircuit.mono _ _ _ _)
   | (with_reducible exact spec_l1Has.mono _ _ _)
   | (with_reducible exact spec_l4Cone.mono _ _ _ _ _)
   | (with_reducible first | exact LeO.refl _ | exact LeO.none _ | refine LeO.ite ?_ ?_ | refine LeO.bind ?_ (fun _ => ?_))
   | exact ih0 _ _ _ _ _ _
   | exact ih1 _ _ _ _ _ _ _ _ _ _
   | exact ih2 _ _ _ _ _ _ _
   | exact spec_GoodCircuit.mono _ _ _ _
   | exact spec_l1Has.mono _ _ _
   | exact spec_l4Cone.mono _ _ _ _ _
   | exact LeO.none _ | refine LeO.ite ?_ ?_ | refine LeO.bind ?_ (fun _ => ?_)
  ·intro y0 y1 y2 y3 y4 y5 y6
   unfold spec_PruneCircuit.l2
   repeat' first
   | (with_reducible exact ih0 _ _ _ _ _ _)
   | (with_reducible exact ih1 _ _ _ _ _ _ _ _ _ _)
   | (with_reducible exact ih2 _ _ _ _ _ _ _)
   | (with_reducible exact spec_GoodCircuit.mono _ _ _ _)
   | (with_reducible exact spec_l1Has.mono _ _ _)
   | (with_reducible exact spec_l4Cone.mono _ _ _ _ _)
   | (with_reducible first | exact LeO.refl _ | exact LeO.none _ | refine LeO.ite ?_ ?_ | refine LeO.bind ?_ (fun _ => ?_))
   | exact ih0 _ _ _ _ _ _
   | exact ih1 _ _ _ _ _ _ _ _ _ _
   | exact ih2 _ _ _ _ _ _ _
   | exact spec_GoodCircuit.mono _ _ _ _
   | exact spec_l1Has.mono _ _ _
   | exact spec_l4Cone.mono _ _ _ _ _
   | exact LeO.none _ | refine LeO.ite ?_ ?_ | refine LeO.bind ?_ (fun _ => ?_)
theorem spec_PruneCircuit.mono : ∀ a0 a1 a2 k, LeO (spec_PruneCircuit.f k a0 a1 a2) (spec_PruneCircuit.f (k + 1) a0 a1 a2) := by
 intro a0 a1 a2 k
 obtain ⟨ih0, ih1, ih2⟩ := spec_PruneCircuit.mono_l k
 unfold spec_PruneCircuit.f
 repeat' first
   | (with_reducible exact ih0 _ _ _ _ _ _)
   | (with_reducible exact ih1 _ _ _ _ _ _ _ _ _ _)
   | (with_reducible exact ih2 _ _ _ _ _ _ _)
   | (with_reducible exact spec_GoodCircuit.mono _ _ _ _)
   | (with_reducible exact spec_l1Has.mono _ _ _)
   | (with_reducible exact spec_l4Cone.mono _ _ _ _ _)
   | (with_reducible first | exact LeO.refl _ | exact LeO.none _ | refine LeO.ite ?_ ?_ | refine LeO.bind ?_ (fun _ => ?_))
   | exact ih0 _ _ _ _ _ _
   | exact ih1 _ _ _ _ _ _ _ _ _ _
   | exact ih2 _ _ _ _ _ _ _
   | exact spec_GoodCircuit.mono _ _ _ _
   | exact spec_l1Has.mono _ _ _
   | exact spec_l4Cone.mono _ _ _ _ _
   | exact LeO.none _ | refine LeO.ite ?_ ?_ | refine LeO.bind ?_ (fun _ => ?_)
def spec_PruneCircuit.T18 : Bool × List (List Nat × List Nat) := (true, [([], []), ([], []), ([1], [1]), ([], []), ([2, 3], [2, 3]), ([], []), ([5], [5]), ([0, 4, 0, 1, 2, 3, 4, 5, 6], [0, 4]), ([7, 6, 6, 0, 1, 2, 3, 4, 5, 6], [6, 7])])
def spec_PruneCircuit.B18 : List Nat := [0, 0, 2, 0, 14, 0, 32, 127, 255]
theorem spec_PruneCircuit.tab18 : rtab .any (opsOf Try.f30 18) = spec_PruneCircuit.T18 := by kernel_rfl
theorem spec_PruneCircuit.bits18 : waitsOk spec_PruneCircuit.T18.2 spec_PruneCircuit.B18 = true := by kernel_rfl
def spec_PruneCircuit.T24 : Bool × List (List Nat × List Nat) := (true, [([], []), ([0], [0]), ([], []), ([], []), ([2, 3], [2, 3]), ([4], [4]), ([5], [5]), ([1, 6], [1, 6]), ([0, 1, 2, 3, 4, 5, 6, 7], []), ([8, 7, 7, 0, 1, 2, 3, 4, 5, 6, 7], [7, 8])])
def spec_PruneCircuit.B24 : List Nat := [0, 1, 0, 0, 12, 28, 60, 127, 255, 511]
theorem spec_PruneCircuit.tab24 : rtab .any (opsOf Try.f30 24) = spec_PruneCircuit.T24 := by kernel_rfl
theorem spec_PruneCircuit.bits24 : waitsOk spec_PruneCircuit.T24.2 spec_PruneCircuit.B24 = true := by kernel_rfl
set_option maxHeartbeats 8000000 in
set_option maxRecDepth 100000 in
theorem spec_PruneCircuit.calls (k : Nat) (a0_0 : Int) (A0_1 : Option Addr) (c0_1 : Nat) (l0_1 : List (S59)) (A0_2 : Option Addr) (c0_2 : Nat) (l0_2 : List Int) (r1 : Int) (r2 : List (S59)) (r3 : List Int) (r4 : Bool) (w : World) (hr0_1 : Kd.C k59 w A0_1 l0_1.length l0_1) (hc0_1 : l0_1.length ≤ c0_1) (hr0_2 : Kd.C (Kd.int .i64) w A0_2 l0_2.length l0_2) (hc0_2 : l0_2.length ≤ c0_2) (h : spec_PruneCircuit.f k a0_0 l0_1 l0_2 = some (r1, r2, r3, r4)) :
  Calls Try.prog 30 #[.agg #[.int .i64 a0_0, .slice A0_1 l0_1.length c0_1, .slice A0_2 l0_2.length c0_2]] w fun e w' => ∃ v1_ v2_ : Value, e = .returned (.tuple #[.agg #[.int .i64 r1, v1_, v2_], .bool r4]) ∧ Kd.R k59 59 w' w.heap.size (fun _ => True) v1_ r2 ∧ Kd.R (Kd.int .i64) 3 w' w.heap.size (fun _ => True) v2_ r3 ∧ Below w.heap.size w w' := by
 have hu30 := Try.underlying30
 have hu59 := Try.underlying59
 have HR0_1 := Aside0.mk hr0_1
 have HC0_1 := Aside0.mk hc0_1
 clear hr0_1 hc0_1
 have HR0_2 := Aside0.mk hr0_2
 have HC0_2 := Aside0.mk hc0_2
 clear hr0_2 hc0_2
 have HB := Aside0.mk (Below.refl w.heap.size w)
 have H : ((spec_GoodCircuit.f k a0_0 l0_1 l0_2).bind fun t618 => (if t618 = true then ((spec_l4Wires.f a0_0 l0_1 l0_2).bind fun t620 => (if 0 ≤ t620 then (if (t620 : Int).toNat ≤ 35184372088832 then (spec_PruneCircuit.l0 k (List.replicate (t620 : Int).toNat 0) 0 a0_0 l0_1 l0_2 a0_0) else (none)) else (none))) else (some (0, ([] : List (S59)), ([] : List Int), false)))) = some (r1, r2, r3, r4) := h
 clear h
 replace H := Option.bind_eq_some_iff.mp H
 obtain ⟨t618, A20, H⟩ := H
 replace H : (if t618 = true then ((spec_l4Wires.f a0_0 l0_1 l0_2).bind fun t620 => (if 0 ≤ t620 then (if (t620 : Int).toNat ≤ 35184372088832 then (spec_PruneCircuit.l0 k (List.replicate (t620 : Int).toNat 0) 0 a0_0 l0_1 l0_2 a0_0) else (none)) else (none))) else (some (0, ([] : List (S59)), ([] : List Int), false))) = some (r1, r2, r3, r4) := H
 have A2 := Aside0.mk A20
 clear A20
 by_cases c3 : t618 = true
 ·subst c3
  have H1 : ((spec_l4Wires.f a0_0 l0_1 l0_2).bind fun t620 => (if 0 ≤ t620 then (if (t620 : Int).toNat ≤ 35184372088832 then (spec_PruneCircuit.l0 k (List.replicate (t620 : Int).toNat 0) 0 a0_0 l0_1 l0_2 a0_0) else (none)) else (none))) = some (r1, r2, r3, r4) := by rw [if_pos rfl] at H; exact H
  clear H
  have H := H1
  clear H1
  replace H := Option.bind_eq_some_iff.mp H
  obtain ⟨t620, A40, H⟩ := H
  replace H : (if 0 ≤ t620 then (if (t620 : Int).toNat ≤ 35184372088832 then (spec_PruneCircuit.l0 k (List.replicate (t620 : Int).toNat 0) 0 a0_0 l0_1 l0_2 a0_0) else (none)) else (none)) = some (r1, r2, r3, r4) := H
  have A4 := Aside0.mk A40
  clear A40
  by_cases c5 : 0 ≤ t620
  ·rw [if_pos c5] at H
   have c5b0 := eq_true c5
   have c5b1 : decide (0 ≤ t620) = true := decide_eq_true c5
   clear c5
   by_cases c6 : (t620 : Int).toNat ≤ 35184372088832
   ·rw [if_pos c6] at H
    have c6b0 := eq_true c6
    have c6b1 : decide ((t620 : Int).toNat ≤ 35184372088832) = true := decide_eq_true c6
    clear c6
    obtain ⟨y621, hy621⟩ : ∃ y_ : List Int, y_ = (List.replicate (t620 : Int).toNat 0) := ⟨_, rfl⟩
    replace H : (spec_PruneCircuit.l0 k y621 0 a0_0 l0_1 l0_2 a0_0) = some (r1, r2, r3, r4) := qY hy621 H
    have Ny621 := Aside0.mk hy621
    clear hy621
    have H' := Aside0.mk H
    clear H
    go_enter Try.func30, Try.ntmps30
    go_wp2_with (first | ((with_reducible refine gate_dst (N := 1) rfl ?_); refine box_event ?hg (N := 1) ?hd (cs := #[.int .i64 a0_0, .slice A0_1 l0_1.length c0_1, .slice A0_2 l0_2.length c0_2]) (t := 30) ?hr ?_; (case hd => rfl); (case hg => rfl); (case hr => first | (go_simp; done) | (go_simp; rfl)); intro gb616 hg w7 hbox hb; have n0_ := Aside0.mk (below_step (qB) hb); have n1_ := Aside0.mk (hbox); have n2_ := Aside0.mk ((by rw [hg]; exact (below_size (qB)) : w.heap.size ≤ gb616)); have n3_ := Aside0.mk ((by rw [hg]; exact (below_size (qB)) : w.heap.size ≤ gb616)); clear HB; have HB := n0_; have BK616 := n1_; have GW616 := n2_; have GE616 := n3_; clear n0_ n1_ n2_ n3_; clear hb hbox hg) | ((with_reducible refine gate_dst (N := 2) rfl ?_); refine box_event ?hg (N := 2) ?hd (cs := #[.int .i64 0, .slice none 0 0, .slice none 0 0]) (t := 30) ?hr ?_; (case hd => rfl); (case hg => rfl); (case hr => first | (go_simp; done) | (go_simp; rfl)); intro gb617 hg w8 hbox hb; have n0_ := Aside0.mk (blk_below (g := gb616) (o := .cells #[.int .i64 a0_0, .slice A0_1 l0_1.length c0_1, .slice A0_2 l0_2.length c0_2] 30 (0, 0)) (qK BK616.out) hb); have n1_ := Aside0.mk (below_step (qB) hb); have n2_ := Aside0.mk (hbox); have n3_ := Aside0.mk ((by rw [hg]; exact (below_size (qB)) : w.heap.size ≤ gb617)); have n4_ := Aside0.mk ((by rw [hg]; exact (below_size (qB)) : w.heap.size ≤ gb617)); have n5_ := Aside0.mk ((by rw [hg]; exact Nat.ne_of_lt (blk_lt (g := gb616) (o := .cells #[.int .i64 a0_0, .slice A0_1 l0_1.length c0_1, .slice A0_2 l0_2.length c0_2] 30 (0, 0)) (qK BK616.out)) : gb616 ≠ gb617)); have n6_ := Aside0.mk ((by rw [hg]; exact Nat.ne_of_gt (blk_lt (g := gb616) (o := .cells #[.int .i64 a0_0, .slice A0_1 l0_1.length c0_1, .slice A0_2 l0_2.length c0_2] 30 (0, 0)) (qK BK616.out)) : gb617 ≠ gb616)); clear BK616; clear HB; have BK616 := n0_; have HB := n1_; have BK617 := n2_; have GW617 := n3_; have GE617 := n4_; have NB616_617 := n5_; have NB617_616 := n6_; clear n0_ n1_ n2_ n3_ n4_ n5_ n6_; clear hb hbox hg; have hnb9 := NB616_617.out; have hnc9 := NB617_616.out; have hcz10_0 : w8.cell? ⟨gb616, 0, none⟩ = some (.int .i64 a0_0) := (blk_cell BK616.out 0).trans rfl; have hcz10_1 : w8.cell? ⟨gb616, 1, none⟩ = some (.slice A0_1 l0_1.length c0_1) := (blk_cell BK616.out 1).trans rfl; have hcz10_2 : w8.cell? ⟨gb616, 2, none⟩ = some (.slice A0_2 l0_2.length c0_2) := (blk_cell BK616.out 2).trans rfl; have hfz10_0 := blk_frozen BK616.out 0; have hfz10_1 := blk_frozen BK616.out 1; have hfz10_2 := blk_frozen BK616.out 2) | ((with_reducible refine gate_callee (f := 12) rfl ?_); refine goesL_ (some 13) rfl rfl Try.func12 (by kernel_rfl) rfl #[.agg #[.int .i64 a0_0, .slice A0_1 l0_1.length c0_1, .slice A0_2 l0_2.length c0_2]] rfl qG ?_; (with_reducible refine (spec_GoodCircuit.calls k a0_0 _ _ l0_1 _ _ l0_2 true _ ?side1 ?side2 ?side3 ?side4 A2.out).mono ?_); (case side1 => exact qC (Kd.C_below HR0_1.out HB.out)); (case side2 => exact HC0_1.out); (case side3 => exact qC (Kd.C_below HR0_2.out HB.out)); (case side4 => exact HC0_2.out); rintro e w11 ⟨rfl, hb⟩; refine ⟨_, rfl, ?_⟩; have n0_ := Aside0.mk (blk_below (g := gb616) (o := .cells #[.int .i64 a0_0, .slice A0_1 l0_1.length c0_1, .slice A0_2 l0_2.length c0_2] 30 (0, 0)) (qK BK616.out) hb); have n1_ := Aside0.mk (blk_below (g := gb617) (o := .cells #[.int .i64 0, .slice none 0 0, .slice none 0 0] 30 (0, 0)) (qK BK617.out) hb); have n2_ := Aside0.mk (below_step (qB) hb); clear BK616; clear BK617; clear HB; have BK616 := n0_; have BK617 := n1_; have HB := n2_; clear n0_ n1_ n2_; (try clear hb); (try clear hb2); (try clear hk); (try clear hi); have hcz12_0 : w11.cell? ⟨gb616, 0, none⟩ = some (.int .i64 a0_0) := (blk_cell BK616.out 0).trans rfl; have hcz12_1 : w11.cell? ⟨gb616, 1, none⟩ = some (.slice A0_1 l0_1.length c0_1) := (blk_cell BK616.out 1).trans rfl; have hcz12_2 : w11.cell? ⟨gb616, 2, none⟩ = some (.slice A0_2 l0_2.length c0_2) := (blk_cell BK616.out 2).trans rfl; have hfz12_0 := blk_frozen BK616.out 0; have hfz12_1 := blk_frozen BK616.out 1; have hfz12_2 := blk_frozen BK616.out 2) | ((with_reducible refine gate_dst (N := 4) rfl ?_); refine box_event ?hg (N := 4) ?hd (cs := #[.int .i64 0, .slice none 0 0, .slice none 0 0]) (t := 30) ?hr ?_; (case hd => rfl); (case hg => rfl); (case hr => first | (go_simp; done) | (go_simp; rfl)); intro gb619 hg w13 hbox hb; have n0_ := Aside0.mk (blk_below (g := gb616) (o := .cells #[.int .i64 a0_0, .slice A0_1 l0_1.length c0_1, .slice A0_2 l0_2.length c0_2] 30 (0, 0)) (qK BK616.out) hb); have n1_ := Aside0.mk (blk_below (g := gb617) (o := .cells #[.int .i64 0, .slice none 0 0, .slice none 0 0] 30 (0, 0)) (qK BK617.out) hb); have n2_ := Aside0.mk (below_step (qB) hb); have n3_ := Aside0.mk (hbox); have n4_ := Aside0.mk ((by rw [hg]; exact (below_size (qB)) : w.heap.size ≤ gb619)); have n5_ := Aside0.mk ((by rw [hg]; exact (below_size (qB)) : w.heap.size ≤ gb619)); have n6_ := Aside0.mk ((by rw [hg]; exact Nat.ne_of_lt (blk_lt (g := gb616) (o := .cells #[.int .i64 a0_0, .slice A0_1 l0_1.length c0_1, .slice A0_2 l0_2.length c0_2] 30 (0, 0)) (qK BK616.out)) : gb616 ≠ gb619)); have n7_ := Aside0.mk ((by rw [hg]; exact Nat.ne_of_gt (blk_lt (g := gb616) (o := .cells #[.int .i64 a0_0, .slice A0_1 l0_1.length c0_1, .slice A0_2 l0_2.length c0_2] 30 (0, 0)) (qK BK616.out)) : gb619 ≠ gb616)); have n8_ := Aside0.mk ((by rw [hg]; exact Nat.ne_of_lt (blk_lt (g := gb617) (o := .cells #[.int .i64 0, .slice none 0 0, .slice none 0 0] 30 (0, 0)) (qK BK617.out)) : gb617 ≠ gb619)); have n9_ := Aside0.mk ((by rw [hg]; exact Nat.ne_of_gt (blk_lt (g := gb617) (o := .cells #[.int .i64 0, .slice none 0 0, .slice none 0 0] 30 (0, 0)) (qK BK617.out)) : gb619 ≠ gb617)); clear BK616; clear BK617; clear HB; have BK616 := n0_; have BK617 := n1_; have HB := n2_; have BK619 := n3_; have GW619 := n4_; have GE619 := n5_; have NB616_619 := n6_; have NB619_616 := n7_; have NB617_619 := n8_; have NB619_617 := n9_; clear n0_ n1_ n2_ n3_ n4_ n5_ n6_ n7_ n8_ n9_; clear hb hbox hg; have hnb14 := NB619_616.out; have hnc14 := NB616_619.out; have hnb15 := NB619_617.out; have hnc15 := NB617_619.out; have hcz16_0 : w13.cell? ⟨gb619, 0, none⟩ = some (.int .i64 0) := (blk_cell BK619.out 0).trans rfl; have hcz16_1 : w13.cell? ⟨gb619, 1, none⟩ = some (.slice none 0 0) := (blk_cell BK619.out 1).trans rfl; have hcz16_2 : w13.cell? ⟨gb619, 2, none⟩ = some (.slice none 0 0) := (blk_cell BK619.out 2).trans rfl; have hfz16_0 := blk_frozen BK619.out 0; have hfz16_1 := blk_frozen BK619.out 1; have hfz16_2 := blk_frozen BK619.out 2; have hcz17_0 : w13.cell? ⟨gb616, 0, none⟩ = some (.int .i64 a0_0) := (blk_cell BK616.out 0).trans rfl; have hcz17_1 : w13.cell? ⟨gb616, 1, none⟩ = some (.slice A0_1 l0_1.length c0_1) := (blk_cell BK616.out 1).trans rfl; have hcz17_2 : w13.cell? ⟨gb616, 2, none⟩ = some (.slice A0_2 l0_2.length c0_2) := (blk_cell BK616.out 2).trans rfl; have hfz17_0 := blk_frozen BK616.out 0; have hfz17_1 := blk_frozen BK616.out 1; have hfz17_2 := blk_frozen BK616.out 2) | ((with_reducible refine gate_callee (f := 45) rfl ?_); refine goesL_ (some 20) rfl rfl Try.func45 (by kernel_rfl) rfl #[.agg #[.int .i64 a0_0, .slice A0_1 l0_1.length c0_1, .slice A0_2 l0_2.length c0_2]] rfl qG ?_; (with_reducible refine (spec_l4Wires.calls a0_0 _ _ l0_1 _ _ l0_2 t620 _ ?side1 ?side2 ?side3 ?side4 A4.out).mono ?_); (case side1 => exact Kd.C_below HR0_1.out (qB)); (case side2 => exact HC0_1.out); (case side3 => exact Kd.C_below HR0_2.out (qB)); (case side4 => exact HC0_2.out); rintro e w18 ⟨rfl, hb⟩; refine ⟨_, rfl, ?_⟩; have n0_ := Aside0.mk (blk_below (g := gb616) (o := .cells #[.int .i64 a0_0, .slice A0_1 l0_1.length c0_1, .slice A0_2 l0_2.length c0_2] 30 (0, 0)) (qF BK616.out) hb); have n1_ := Aside0.mk (blk_below (g := gb617) (o := .cells #[.int .i64 0, .slice none 0 0, .slice none 0 0] 30 (0, 0)) (qF BK617.out) hb); have n2_ := Aside0.mk (blk_below (g := gb619) (o := .cells #[.int .i64 a0_0, .slice none 0 0, .slice none 0 0] 30 (0, 0)) (by (with_reducible repeat (first | refine blk_drewN ?_ _ | refine blk_drew ?_ | refine blk_alloc ?_ _)); refine blk_put (cs := #[.int .i64 a0_0, .slice none 0 0, .slice none 0 0]) ?_ 2 _ rfl; refine blk_put (cs := #[.int .i64 a0_0, .slice none 0 0, .slice none 0 0]) ?_ 1 _ rfl; refine blk_put (cs := #[.int .i64 0, .slice none 0 0, .slice none 0 0]) ?_ 0 _ rfl; exact qK BK619.out) hb); have n3_ := Aside0.mk (below_step (qB) hb); clear BK616; clear BK617; clear BK619; clear HB; have BK616 := n0_; have BK617 := n1_; have BK619 := n2_; have HB := n3_; clear n0_ n1_ n2_ n3_; (try clear hb); (try clear hb2); (try clear hk); (try clear hi)) | ((with_reducible refine gate_dst (N := 21) rfl ?_); refine Kd.R_make (Kd.int .i64) _ 3 rfl (N := 21) rfl 23 _ _ rfl t620 rfl rfl Try.underlying23 (.int .i64 0) 8 info3 rfl (by decide) (by omega) 0 (ok := fun _ => True) (okp := fun _ => True) rfl (fun _ hk => hk) trivial qD (Nat.le_trans (Nat.mul_le_mul_right _ (qD : t620.toNat ≤ 35184372088832)) (by omega)) (Below.refl _ _) (Nat.le_refl _) ?_; intro v622 w19 ho20 hb hg_ hnew_; clear hg_ hnew_; (first | rw [← Ny621.out] at ho20 | (simp only [Int.reduceToNat] at ho20; rw [← Ny621.out] at ho20)); have n0_ := Aside0.mk (Kd.R_lower ho20 (below_size (qB))); have n1_ := Aside0.mk (blk_below (g := gb616) (o := .cells #[.int .i64 a0_0, .slice A0_1 l0_1.length c0_1, .slice A0_2 l0_2.length c0_2] 30 (0, 0)) (qK BK616.out) hb); have n2_ := Aside0.mk (blk_below (g := gb617) (o := .cells #[.int .i64 0, .slice none 0 0, .slice none 0 0] 30 (0, 0)) (qK BK617.out) hb); have n3_ := Aside0.mk (blk_below (g := gb619) (o := .cells #[.int .i64 a0_0, .slice none 0 0, .slice none 0 0] 30 (0, 0)) (qK BK619.out) hb); have n4_ := Aside0.mk (below_step (qB) hb); clear BK616; clear BK617; clear BK619; clear HB; have HO623 := n0_; have BK616 := n1_; have BK617 := n2_; have BK619 := n3_; have HB := n4_; clear n0_ n1_ n2_ n3_ n4_; clear hb ho20))
    go_loopg [6] k (fun kq v6 w' => ∃ (x5_1 : List Int) (x6_1 : Int), v6 = .int .i64 x6_1 ∧ Aside0 (spec_PruneCircuit.l0 kq x5_1 x6_1 a0_0 l0_1 l0_2 a0_0 = some (r1, r2, r3, r4)) ∧ Aside0 (kq ≤ k) ∧ Aside0 (Kd.R (Kd.int .i64) 3 w' w.heap.size (fun _ => True) v622 x5_1) ∧ Aside0 (w'.heap[gb616]? = some (.cells #[.int .i64 a0_0, (.slice A0_1 l0_1.length c0_1), (.slice A0_2 l0_2.length c0_2)] 30 (0, 0))) ∧ Aside0 (w'.heap[gb617]? = some (.cells #[.int .i64 0, (.slice none 0 0), (.slice none 0 0)] 30 (0, 0))) ∧ Aside0 (w'.heap[gb619]? = some (.cells #[.int .i64 a0_0, (.slice none 0 0), (.slice none 0 0)] 30 (0, 0))) ∧ Aside0 (Below w.heap.size w w'))
    case atStart => exact ⟨(y621), (0), qS, H', ⟨Nat.le_refl _⟩, ⟨qR HO623.out⟩, ⟨by exact qK BK616.out⟩, ⟨by exact qK BK617.out⟩, ⟨by exact qK BK619.out⟩, ⟨qB⟩⟩
    case round =>
     clear H'
     try clear c1
     try clear p2
     try clear c3
     try clear c4
     try clear c5
     try clear c5b0
     try clear c5b1
     try clear c6
     try clear c6b0
     try clear c6b1
     try clear c9
     try clear c12
     try clear c14
     try clear c15
     try clear hcz10_0
     try clear hcz10_1
     try clear hcz10_2
     try clear hcz12_0
     try clear hcz12_1
     try clear hcz12_2
     try clear hcz16_0
     try clear hcz16_1
     try clear hcz16_2
     try clear hcz17_0
     try clear hcz17_1
     try clear hcz17_2
     try clear hfz10_0
     try clear hfz10_1
     try clear hfz10_2
     try clear hfz12_0
     try clear hfz12_1
     try clear hfz12_2
     try clear hfz16_0
     try clear hfz16_1
     try clear hfz16_2
     try clear hfz17_0
     try clear hfz17_1
     try clear hfz17_2
     obtain ⟨x5_1, x6_1, rfl, HA, HK1, HO_5, BK616, BK617, BK619, HB⟩ := hrel
     cases gk with
     | zero => exact absurd HA.out (by simp [spec_PruneCircuit.l0])
     | succ k1 =>
      have H := HA.out
      clear HA
      simp only [spec_PruneCircuit.l0] at H
      by_cases c21 : x6_1 < a0_0
      ·rw [if_pos c21] at H
       have c21b0 : decide (x6_1 < a0_0) = true := decide_eq_true c21
       clear c21
       by_cases c22 : 0 ≤ x6_1
       ·rw [if_pos c22] at H
        have c22b0 : decide (0 ≤ x6_1) = true := decide_eq_true c22
        clear c22
        by_cases c23 : x6_1 < (x5_1.length : Int)
        ·rw [if_pos c23] at H
         have c23b0 : decide (x6_1 < (x5_1.length : Int)) = true := decide_eq_true c23
         clear c23
         obtain ⟨y624, hy624⟩ : ∃ y_ : List Int, y_ = (x5_1.set (x6_1 : Int).toNat x6_1) := ⟨_, rfl⟩
         replace H : (spec_PruneCircuit.l0 k1 y624 (wrap64 (x6_1 + 1)) a0_0 l0_1 l0_2 a0_0) = some (r1, r2, r3, r4) := qY hy624 H
         have Ny624 := Aside0.mk hy624
         clear hy624
         have H' := Aside0.mk H
         clear H
         have hnb25 := NB616_617.out
         have hnc25 := NB617_616.out
         have hnb26 := NB616_619.out
         have hnc26 := NB619_616.out
         have hcz27_0 : wr.cell? ⟨gb616, 0, none⟩ = some (.int .i64 a0_0) := (blk_cell BK616.out 0).trans rfl
         have hcz27_1 : wr.cell? ⟨gb616, 1, none⟩ = some (.slice A0_1 l0_1.length c0_1) := (blk_cell BK616.out 1).trans rfl
         have hcz27_2 : wr.cell? ⟨gb616, 2, none⟩ = some (.slice A0_2 l0_2.length c0_2) := (blk_cell BK616.out 2).trans rfl
         have hfz27_0 := blk_frozen BK616.out 0
         have hfz27_1 := blk_frozen BK616.out 1
         have hfz27_2 := blk_frozen BK616.out 2
         have p24 : 0 ≤ (x6_1 : Int) := qD
         have q24 : (x6_1 : Int) < ((x5_1.length : Int) : Int) := qD
         obtain ⟨go24, co24, eo24, gb24, gl24, cl24, HG24⟩ := Kd.R_form HO_5.out (by omega)
         (first | cases eo24 | (injection eo24 with ea_ en_ ec_; (first | subst ea_ | (injection ea_ with ea_; subst ea_)); subst ec_; clear en_))
         have GB24 := Aside0.mk gb24
         have GG24 := Aside0.mk HG24
         clear gb24 gl24 HG24
         obtain ⟨hx24_0, hf24_0⟩ := Kd.R_celln 0 HO_5.out (x6_1 : Int) p24 q24
         replace p24 := eq_true p24
         replace q24 := eq_true q24
         have HP28 := Kd.R_putg HO_5.out (x6_1 : Int) x6_1
         go_wp2_with (first | ((with_reducible refine gate_store (t := 3) (p := 31) rfl ?_); refine store_event (t := 3) (p := 31) (v := ?vo_w29) (w1 := (wr.setCell ⟨go24, (x6_1 : Int).toNat, none⟩ (.int .i64 x6_1))) ?hg ?ho ?hn ?hr ?_; (case ho => rfl); (case hg => rfl); (case hn => rfl); (case hr => first | (go_simp; done) | (go_simp; rfl)); intro w29 hw; have hg : wr.grownBy w29 (some go24) := (by rw [hw]; exact HP28.2); have hp_ : Kd.R (Kd.int .i64) 3 w29 w.heap.size (fun _ => True) (.slice (some ⟨go24, 0, none⟩) x5_1.length co24) y624 := (by rw [hw, Ny624.out]; exact HP28.1); clear HP28; have n0_ := Aside0.mk (hp_); have n1_ := Aside0.mk (blk_grown (g := gb616) (o := .cells #[.int .i64 a0_0, .slice A0_1 l0_1.length c0_1, .slice A0_2 l0_2.length c0_2] 30 (0, 0)) (qK BK616.out) hg (Kd.R_ne HO_5.out BK616.out (by decide))); have n2_ := Aside0.mk (blk_grown (g := gb617) (o := .cells #[.int .i64 0, .slice none 0 0, .slice none 0 0] 30 (0, 0)) (qK BK617.out) hg (Kd.R_ne HO_5.out BK617.out (by decide))); have n3_ := Aside0.mk (blk_grown (g := gb619) (o := .cells #[.int .i64 a0_0, .slice none 0 0, .slice none 0 0] 30 (0, 0)) (qK BK619.out) hg (Kd.R_ne HO_5.out BK619.out (by decide))); have n4_ := Aside0.mk ((by rw [hw]; exact below_set (HB.out) GB24.out : Below w.heap.size w w29)); clear HO_5; clear BK616; clear BK617; clear BK619; clear HB; have HO_5 := n0_; have BK616 := n1_; have BK617 := n2_; have BK619 := n3_; have HB := n4_; clear n0_ n1_ n2_ n3_ n4_; clear hg hw hp_))
         go_roundg k1
         case measure => have := HK1.out; omega
         case rel => exact ⟨(y624), (wrap64 (x6_1 + 1)), qS, H', ⟨by have := HK1.out; omega⟩, ⟨qR HO_5.out⟩, ⟨by exact qK BK616.out⟩, ⟨by exact qK BK617.out⟩, ⟨by exact qK BK619.out⟩, ⟨qB⟩⟩
        ·rw [if_neg c23] at H
         exact absurd H (by simp)
       ·rw [if_neg c22] at H
        exact absurd H (by simp)
      ·rw [if_neg c21] at H
       have c21b0 : decide (x6_1 < a0_0) = false := decide_eq_false c21
       clear c21
       replace H := Option.bind_eq_some_iff.mp H
       obtain ⟨t625, A300, H⟩ := H
       replace H : (spec_PruneCircuit.l1 k1 x5_1 t625 l0_1 (l0_1.length : Int) 0 a0_0 l0_1 l0_2 a0_0 ([] : List (S59))) = some (r1, r2, r3, r4) := H
       have A30 := Aside0.mk A300
       clear A300
       have H' := Aside0.mk H
       clear H
       have hnb31 := NB616_617.out
       have hnc31 := NB617_616.out
       have hnb32 := NB616_619.out
       have hnc32 := NB619_616.out
       have hcz33_0 : wr.cell? ⟨gb616, 0, none⟩ = some (.int .i64 a0_0) := (blk_cell BK616.out 0).trans rfl
       have hcz33_1 : wr.cell? ⟨gb616, 1, none⟩ = some (.slice A0_1 l0_1.length c0_1) := (blk_cell BK616.out 1).trans rfl
       have hcz33_2 : wr.cell? ⟨gb616, 2, none⟩ = some (.slice A0_2 l0_2.length c0_2) := (blk_cell BK616.out 2).trans rfl
       have hfz33_0 := blk_frozen BK616.out 0
       have hfz33_1 := blk_frozen BK616.out 1
       have hfz33_2 := blk_frozen BK616.out 2
       go_wp2_with (first | ((with_reducible refine gate_callee (f := 54) rfl ?_); refine goesL_ (some 35) rfl rfl Try.func54 (by kernel_rfl) rfl #[.agg #[.int .i64 a0_0, .slice A0_1 l0_1.length c0_1, .slice A0_2 l0_2.length c0_2], .slice A0_2 l0_2.length c0_2] rfl qG ?_; (with_reducible refine (spec_l4Cone.calls k1 a0_0 _ _ l0_1 _ _ l0_2 _ _ l0_2 t625 _ ?side1 ?side2 ?side3 ?side4 ?side5 ?side6 A30.out).mono ?_); (case side1 => exact qC (Kd.C_below HR0_1.out HB.out)); (case side2 => exact HC0_1.out); (case side3 => exact qC (Kd.C_below HR0_2.out HB.out)); (case side4 => exact HC0_2.out); (case side5 => exact qC (Kd.C_below HR0_2.out HB.out)); (case side6 => exact HC0_2.out); rintro e w34 ⟨v626, rfl, ho0, hb⟩; refine ⟨_, rfl, ?_⟩; have n0_ := Aside0.mk (Kd.R_elder' (qR HO_5.out) (Kd.R_base ho0) hb); have n1_ := Aside0.mk (Kd.R_lower (Kd.R_new' ho0 (Kd.R_lt (qR HO_5.out))) (below_size (qB))); have n2_ := Aside0.mk (blk_below (g := gb616) (o := .cells #[.int .i64 a0_0, .slice A0_1 l0_1.length c0_1, .slice A0_2 l0_2.length c0_2] 30 (0, 0)) (qK BK616.out) hb); have n3_ := Aside0.mk (blk_below (g := gb617) (o := .cells #[.int .i64 0, .slice none 0 0, .slice none 0 0] 30 (0, 0)) (qK BK617.out) hb); have n4_ := Aside0.mk (blk_below (g := gb619) (o := .cells #[.int .i64 a0_0, .slice none 0 0, .slice none 0 0] 30 (0, 0)) (qK BK619.out) hb); have n5_ := Aside0.mk (below_step (qB) hb); clear HO_5; clear BK616; clear BK617; clear BK619; clear HB; have HO_5 := n0_; have HO627 := n1_; have BK616 := n2_; have BK617 := n3_; have BK619 := n4_; have HB := n5_; clear n0_ n1_ n2_ n3_ n4_ n5_; (try clear hb); (try clear hb2); (try clear hk); (try clear hi); (try clear ho0); have hcz35_0 : w34.cell? ⟨gb616, 0, none⟩ = some (.int .i64 a0_0) := (blk_cell BK616.out 0).trans rfl; have hcz35_1 : w34.cell? ⟨gb616, 1, none⟩ = some (.slice A0_1 l0_1.length c0_1) := (blk_cell BK616.out 1).trans rfl; have hcz35_2 : w34.cell? ⟨gb616, 2, none⟩ = some (.slice A0_2 l0_2.length c0_2) := (blk_cell BK616.out 2).trans rfl; have hfz35_0 := blk_frozen BK616.out 0; have hfz35_1 := blk_frozen BK616.out 1; have hfz35_2 := blk_frozen BK616.out 2))
       go_loopg [39] k1 (fun kq v39 w' => ∃ (x5_2 : List Int) (x39_2 : Int) (x620001_2 : List (S59)) (u620001 : Value), v39 = .int .i64 x39_2 ∧ Aside0 (spec_PruneCircuit.l1 kq x5_2 t625 l0_1 (l0_1.length : Int) x39_2 a0_0 l0_1 l0_2 a0_0 x620001_2 = some (r1, r2, r3, r4)) ∧ Aside0 (kq ≤ k1) ∧ Aside0 (Kd.R (Kd.int .i64) 3 w' w.heap.size (fun k_ => some k_ ≠ (v626 : Value).ownBlock) v622 x5_2) ∧ Aside0 (Kd.R (Kd.int .i64) 3 w' w.heap.size (fun k_ => some k_ ≠ (v622 : Value).ownBlock) v626 t625) ∧ Aside0 (Kd.R k59 59 w' w.heap.size (fun _ => True) u620001 x620001_2) ∧ Aside0 (w'.heap[gb616]? = some (.cells #[.int .i64 a0_0, (.slice A0_1 l0_1.length c0_1), (.slice A0_2 l0_2.length c0_2)] 30 (0, 0))) ∧ Aside0 (w'.heap[gb617]? = some (.cells #[.int .i64 0, (.slice none 0 0), (.slice none 0 0)] 30 (0, 0))) ∧ Aside0 (w'.heap[gb619]? = some (.cells #[.int .i64 a0_0, u620001, (.slice none 0 0)] 30 (0, 0))) ∧ Aside0 (Below w.heap.size w w'))
       case atStart => exact ⟨(x5_1), (0), (([] : List (S59))), (.slice none 0 0), qS, H', ⟨Nat.le_refl _⟩, ⟨by (with_reducible repeat (first | apply Kd.R_alloc | apply Kd.R_drewN | apply Kd.R_drew)); exact Kd.R_mono HO_5.out (fun _ hk => hk.2)⟩, ⟨by (with_reducible repeat (first | apply Kd.R_alloc | apply Kd.R_drewN | apply Kd.R_drew)); exact Kd.R_mono HO627.out (fun _ hk => hk.2)⟩, ⟨by first | exact Kd.R_nil _ _ _ _ _ | exact Kd.N_nil _ _ _ _ _ | exact Kd.V_nil _ _ _ _ _ | exact Kd.Q_nil _ _ _ _ _ | exact Kd.S_nil _ _ _ _ _⟩, ⟨by exact qK BK616.out⟩, ⟨by exact qK BK617.out⟩, ⟨by exact qK BK619.out⟩, ⟨qB⟩⟩
       case round =>
        clear H'
        try clear c1
        try clear c2
        try clear p2
        try clear q2
        try clear hx2
        try clear hf2
        try clear c3
        try clear c4
        try clear c5
        try clear c5b0
        try clear c5b1
        try clear c6
        try clear c6b0
        try clear c6b1
        try clear p6
        try clear c9
        try clear c12
        try clear c14
        try clear c15
        try clear c21
        try clear c21b0
        try clear c22
        try clear c22b0
        try clear c23
        try clear c23b0
        try clear p24
        try clear q24
        try clear hx24
        try clear hf24
        try clear c25
        try clear c26
        try clear c30
        try clear c31
        try clear c32
        try clear hcz10_0
        try clear hcz10_1
        try clear hcz10_2
        try clear hcz12_0
        try clear hcz12_1
        try clear hcz12_2
        try clear hcz16_0
        try clear hcz16_1
        try clear hcz16_2
        try clear hcz17_0
        try clear hcz17_1
        try clear hcz17_2
        try clear hcz27_0
        try clear hcz27_1
        try clear hcz27_2
        try clear hcz33_0
        try clear hcz33_1
        try clear hcz33_2
        try clear hcz35_0
        try clear hcz35_1
        try clear hcz35_2
        try clear hfz10_0
        try clear hfz10_1
        try clear hfz10_2
        try clear hfz12_0
        try clear hfz12_1
        try clear hfz12_2
        try clear hfz16_0
        try clear hfz16_1
        try clear hfz16_2
        try clear hfz17_0
        try clear hfz17_1
        try clear hfz17_2
        try clear hfz27_0
        try clear hfz27_1
        try clear hfz27_2
        try clear hfz33_0
        try clear hfz33_1
        try clear hfz33_2
        try clear hfz35_0
        try clear hfz35_1
        try clear hfz35_2
        try clear hx24_0
        try clear p2
        try clear p24
        try clear q24
        obtain ⟨x5_2, x39_2, x620001_2, u620001, rfl, HA, HK2, HO_5, HO_7, HO_620001, BK616, BK617, BK619, HB⟩ := hrel
        cases gk with
        | zero => exact absurd HA.out (by simp [spec_PruneCircuit.l1])
        | succ k2 =>
         have H := HA.out
         clear HA
         simp only [spec_PruneCircuit.l1] at H
         by_cases c36 : x39_2 < (l0_1.length : Int)
         ·rw [if_pos c36] at H
          have c36b0 : decide (x39_2 < (l0_1.length : Int)) = true := decide_eq_true c36
          clear c36
          by_cases c37 : 0 ≤ x39_2
          ·rw [if_pos c37] at H
           have c37b0 : decide (0 ≤ x39_2) = true := decide_eq_true c37
           clear c37
           by_cases c38 : x39_2 < (l0_1.length : Int)
           ·rw [if_pos c38] at H
            have c38b0 : decide (x39_2 < (l0_1.length : Int)) = true := decide_eq_true c38
            clear c38
            replace H := Option.bind_eq_some_iff.mp H
            obtain ⟨t630, A390, H⟩ := H
            replace H : (if t630 = true then (if ((rd_T59 l0_1 x39_2).f0) = 1 then (if ((rd_T59 l0_1 x39_2).f0) > 2 then (if 0 ≤ ((rd_T59 l0_1 x39_2).f2) then (if ((rd_T59 l0_1 x39_2).f2) < (x5_2.length : Int) then ((spec_l4Wires.f a0_0 x620001_2 ([] : List Int)).bind fun t632 => (if 0 ≤ (wrap64 (a0_0 + x39_2)) then (if (wrap64 (a0_0 + x39_2)) < (x5_2.length : Int) then (if x620001_2.length < 5864062014805 then (spec_PruneCircuit.l1 k2 (x5_2.set ((wrap64 (a0_0 + x39_2)) : Int).toNat t632) t625 l0_1 (l0_1.length : Int) (wrap64 (x39_2 + 1)) a0_0 l0_1 l0_2 a0_0 (x620001_2 ++ [(⟨(rd_T59 l0_1 x39_2).f0, (rd_T59 l0_1 x39_2).f1, rd x5_2 ((rd_T59 l0_1 x39_2).f2)⟩ : S59)])) else (none)) else (none)) else (none))) else (none)) else (none)) else ((spec_l4Wires.f a0_0 x620001_2 ([] : List Int)).bind fun t637 => (if 0 ≤ (wrap64 (a0_0 + x39_2)) then (if (wrap64 (a0_0 + x39_2)) < (x5_2.length : Int) then (if x620001_2.length < 5864062014805 then (spec_PruneCircuit.l1 k2 (x5_2.set ((wrap64 (a0_0 + x39_2)) : Int).toNat t637) t625 l0_1 (l0_1.length : Int) (wrap64 (x39_2 + 1)) a0_0 l0_1 l0_2 a0_0 (x620001_2 ++ [(⟨(rd_T59 l0_1 x39_2).f0, (rd_T59 l0_1 x39_2).f1, (rd_T59 l0_1 x39_2).f2⟩ : S59)])) else (none)) else (none)) else (none)))) else (if 0 ≤ ((rd_T59 l0_1 x39_2).f1) then (if ((rd_T59 l0_1 x39_2).f1) < (x5_2.length : Int) then (if ((rd_T59 l0_1 x39_2).f0) > 2 then (if 0 ≤ ((rd_T59 l0_1 x39_2).f2) then (if ((rd_T59 l0_1 x39_2).f2) < (x5_2.length : Int) then ((spec_l4Wires.f a0_0 x620001_2 ([] : List Int)).bind fun t644 => (if 0 ≤ (wrap64 (a0_0 + x39_2)) then (if (wrap64 (a0_0 + x39_2)) < (x5_2.length : Int) then (if x620001_2.length < 5864062014805 then (spec_PruneCircuit.l1 k2 (x5_2.set ((wrap64 (a0_0 + x39_2)) : Int).toNat t644) t625 l0_1 (l0_1.length : Int) (wrap64 (x39_2 + 1)) a0_0 l0_1 l0_2 a0_0 (x620001_2 ++ [(⟨(rd_T59 l0_1 x39_2).f0, rd x5_2 ((rd_T59 l0_1 x39_2).f1), rd x5_2 ((rd_T59 l0_1 x39_2).f2)⟩ : S59)])) else (none)) else (none)) else (none))) else (none)) else (none)) else ((spec_l4Wires.f a0_0 x620001_2 ([] : List Int)).bind fun t649 => (if 0 ≤ (wrap64 (a0_0 + x39_2)) then (if (wrap64 (a0_0 + x39_2)) < (x5_2.length : Int) then (if x620001_2.length < 5864062014805 then (spec_PruneCircuit.l1 k2 (x5_2.set ((wrap64 (a0_0 + x39_2)) : Int).toNat t649) t625 l0_1 (l0_1.length : Int) (wrap64 (x39_2 + 1)) a0_0 l0_1 l0_2 a0_0 (x620001_2 ++ [(⟨(rd_T59 l0_1 x39_2).f0, rd x5_2 ((rd_T59 l0_1 x39_2).f1), (rd_T59 l0_1 x39_2).f2⟩ : S59)])) else (none)) else (none)) else (none)))) else (none)) else (none))) else (spec_PruneCircuit.l1 k2 x5_2 t625 l0_1 (l0_1.length : Int) (wrap64 (x39_2 + 1)) a0_0 l0_1 l0_2 a0_0 x620001_2)) = some (r1, r2, r3, r4) := H
            have A39 := Aside0.mk A390
            clear A390
            by_cases c40 : t630 = true
            ·subst c40
             have H1 : (if ((rd_T59 l0_1 x39_2).f0) = 1 then (if ((rd_T59 l0_1 x39_2).f0) > 2 then (if 0 ≤ ((rd_T59 l0_1 x39_2).f2) then (if ((rd_T59 l0_1 x39_2).f2) < (x5_2.length : Int) then ((spec_l4Wires.f a0_0 x620001_2 ([] : List Int)).bind fun t632 => (if 0 ≤ (wrap64 (a0_0 + x39_2)) then (if (wrap64 (a0_0 + x39_2)) < (x5_2.length : Int) then (if x620001_2.length < 5864062014805 then (spec_PruneCircuit.l1 k2 (x5_2.set ((wrap64 (a0_0 + x39_2)) : Int).toNat t632) t625 l0_1 (l0_1.length : Int) (wrap64 (x39_2 + 1)) a0_0 l0_1 l0_2 a0_0 (x620001_2 ++ [(⟨(rd_T59 l0_1 x39_2).f0, (rd_T59 l0_1 x39_2).f1, rd x5_2 ((rd_T59 l0_1 x39_2).f2)⟩ : S59)])) else (none)) else (none)) else (none))) else (none)) else (none)) else ((spec_l4Wires.f a0_0 x620001_2 ([] : List Int)).bind fun t637 => (if 0 ≤ (wrap64 (a0_0 + x39_2)) then (if (wrap64 (a0_0 + x39_2)) < (x5_2.length : Int) then (if x620001_2.length < 5864062014805 then (spec_PruneCircuit.l1 k2 (x5_2.set ((wrap64 (a0_0 + x39_2)) : Int).toNat t637) t625 l0_1 (l0_1.length : Int) (wrap64 (x39_2 + 1)) a0_0 l0_1 l0_2 a0_0 (x620001_2 ++ [(⟨(rd_T59 l0_1 x39_2).f0, (rd_T59 l0_1 x39_2).f1, (rd_T59 l0_1 x39_2).f2⟩ : S59)])) else (none)) else (none)) else (none)))) else (if 0 ≤ ((rd_T59 l0_1 x39_2).f1) then (if ((rd_T59 l0_1 x39_2).f1) < (x5_2.length : Int) then (if ((rd_T59 l0_1 x39_2).f0) > 2 then (if 0 ≤ ((rd_T59 l0_1 x39_2).f2) then (if ((rd_T59 l0_1 x39_2).f2) < (x5_2.length : Int) then ((spec_l4Wires.f a0_0 x620001_2 ([] : List Int)).bind fun t644 => (if 0 ≤ (wrap64 (a0_0 + x39_2)) then (if (wrap64 (a0_0 + x39_2)) < (x5_2.length : Int) then (if x620001_2.length < 5864062014805 then (spec_PruneCircuit.l1 k2 (x5_2.set ((wrap64 (a0_0 + x39_2)) : Int).toNat t644) t625 l0_1 (l0_1.length : Int) (wrap64 (x39_2 + 1)) a0_0 l0_1 l0_2 a0_0 (x620001_2 ++ [(⟨(rd_T59 l0_1 x39_2).f0, rd x5_2 ((rd_T59 l0_1 x39_2).f1), rd x5_2 ((rd_T59 l0_1 x39_2).f2)⟩ : S59)])) else (none)) else (none)) else (none))) else (none)) else (none)) else ((spec_l4Wires.f a0_0 x620001_2 ([] : List Int)).bind fun t649 => (if 0 ≤ (wrap64 (a0_0 + x39_2)) then (if (wrap64 (a0_0 + x39_2)) < (x5_2.length : Int) then (if x620001_2.length < 5864062014805 then (spec_PruneCircuit.l1 k2 (x5_2.set ((wrap64 (a0_0 + x39_2)) : Int).toNat t649) t625 l0_1 (l0_1.length : Int) (wrap64 (x39_2 + 1)) a0_0 l0_1 l0_2 a0_0 (x620001_2 ++ [(⟨(rd_T59 l0_1 x39_2).f0, rd x5_2 ((rd_T59 l0_1 x39_2).f1), (rd_T59 l0_1 x39_2).f2⟩ : S59)])) else (none)) else (none)) else (none)))) else (none)) else (none))) = some (r1, r2, r3, r4) := by rw [if_pos rfl] at H; exact H
             clear H
             have H := H1
             clear H1
             by_cases c41 : ((rd_T59 l0_1 x39_2).f0) = 1
             ·rw [if_pos c41] at H
              have c41b0 : (((rd_T59 l0_1 x39_2).f0) == 1) = true := beq_iff_eq.mpr c41
              have c41b1 : (((rd_T59 l0_1 x39_2).f0) != 1) = false := bne_eq_false_iff_eq.mpr c41
              clear c41
              by_cases c42 : ((rd_T59 l0_1 x39_2).f0) > 2
              ·rw [if_pos c42] at H
               have c42b0 : decide (2 < ((rd_T59 l0_1 x39_2).f0)) = true := decide_eq_true c42
               clear c42
               by_cases c43 : 0 ≤ ((rd_T59 l0_1 x39_2).f2)
               ·rw [if_pos c43] at H
                have c43b0 : decide (0 ≤ ((rd_T59 l0_1 x39_2).f2)) = true := decide_eq_true c43
                clear c43
                by_cases c44 : ((rd_T59 l0_1 x39_2).f2) < (x5_2.length : Int)
                ·rw [if_pos c44] at H
                 have c44b0 : decide (((rd_T59 l0_1 x39_2).f2) < (x5_2.length : Int)) = true := decide_eq_true c44
                 clear c44
                 replace H := Option.bind_eq_some_iff.mp H
                 obtain ⟨t632, A450, H⟩ := H
                 replace H : (if 0 ≤ (wrap64 (a0_0 + x39_2)) then (if (wrap64 (a0_0 + x39_2)) < (x5_2.length : Int) then (if x620001_2.length < 5864062014805 then (spec_PruneCircuit.l1 k2 (x5_2.set ((wrap64 (a0_0 + x39_2)) : Int).toNat t632) t625 l0_1 (l0_1.length : Int) (wrap64 (x39_2 + 1)) a0_0 l0_1 l0_2 a0_0 (x620001_2 ++ [(⟨(rd_T59 l0_1 x39_2).f0, (rd_T59 l0_1 x39_2).f1, rd x5_2 ((rd_T59 l0_1 x39_2).f2)⟩ : S59)])) else (none)) else (none)) else (none)) = some (r1, r2, r3, r4) := H
                 have A45 := Aside0.mk A450
                 clear A450
                 obtain ⟨ji46, hji46⟩ : ∃ j_ : Int, (wrap64 (a0_0 + x39_2)) = j_ := ⟨_, rfl⟩
                 replace H : (if 0 ≤ (ji46) then (if (ji46) < (x5_2.length : Int) then (if x620001_2.length < 5864062014805 then (spec_PruneCircuit.l1 k2 (x5_2.set ((ji46) : Int).toNat t632) t625 l0_1 (l0_1.length : Int) (wrap64 (x39_2 + 1)) a0_0 l0_1 l0_2 a0_0 (x620001_2 ++ [(⟨(rd_T59 l0_1 x39_2).f0, (rd_T59 l0_1 x39_2).f1, rd x5_2 ((rd_T59 l0_1 x39_2).f2)⟩ : S59)])) else (none)) else (none)) else (none)) = some (r1, r2, r3, r4) := by first | (rw [hji46] at H; exact H) | (simp only [hji46] at H ⊢; exact H)
                 (try rw [hji46] at A39)
                 (try rw [hji46] at A45)
                 have hji46w : (IntKind.i64.wrap (a0_0 + x39_2)) = ji46 := (i64_w _).trans hji46
                 by_cases c47 : 0 ≤ (ji46)
                 ·rw [if_pos c47] at H
                  have c47b0 : decide (0 ≤ (ji46)) = true := decide_eq_true c47
                  clear c47
                  by_cases c48 : (ji46) < (x5_2.length : Int)
                  ·rw [if_pos c48] at H
                   have c48b0 : decide ((ji46) < (x5_2.length : Int)) = true := decide_eq_true c48
                   clear c48
                   obtain ⟨y633, hy633⟩ : ∃ y_ : List Int, y_ = (x5_2.set ((ji46) : Int).toNat t632) := ⟨_, rfl⟩
                   replace H : (if x620001_2.length < 5864062014805 then (spec_PruneCircuit.l1 k2 y633 t625 l0_1 (l0_1.length : Int) (wrap64 (x39_2 + 1)) a0_0 l0_1 l0_2 a0_0 (x620001_2 ++ [(⟨(rd_T59 l0_1 x39_2).f0, (rd_T59 l0_1 x39_2).f1, rd x5_2 ((rd_T59 l0_1 x39_2).f2)⟩ : S59)])) else (none)) = some (r1, r2, r3, r4) := qY hy633 H
                   have Ny633 := Aside0.mk hy633
                   clear hy633
                   by_cases c50 : x620001_2.length < 5864062014805
                   ·rw [if_pos c50] at H
                    have LMc50 := Aside0.mk c50
                    clear c50
                    obtain ⟨y634, hy634⟩ : ∃ y_ : List (S59), y_ = (x620001_2 ++ [(⟨(rd_T59 l0_1 x39_2).f0, (rd_T59 l0_1 x39_2).f1, rd x5_2 ((rd_T59 l0_1 x39_2).f2)⟩ : S59)]) := ⟨_, rfl⟩
                    replace H : (spec_PruneCircuit.l1 k2 y633 t625 l0_1 (l0_1.length : Int) (wrap64 (x39_2 + 1)) a0_0 l0_1 l0_2 a0_0 y634) = some (r1, r2, r3, r4) := qY hy634 H
                    have Ny634 := Aside0.mk hy634
                    clear hy634
                    have H' := Aside0.mk H
                    clear H
                    have p628 : 0 ≤ (x39_2 : Int) := qD
                    have q628 : x39_2 < (l0_1.length : Int) := qD
                    obtain ⟨ad628, e628, hx628_0, hx628_1, hx628_2⟩ := at_T59 HR0_1.out x39_2 p628 q628
                    cases e628
                    replace hx628_0 := (HB.out.cell (World.block_lt_of_cell? w _ hx628_0)).trans hx628_0
                    replace hx628_1 := (HB.out.cell (World.block_lt_of_cell? w _ hx628_1)).trans hx628_1
                    replace hx628_2 := (HB.out.cell (World.block_lt_of_cell? w _ hx628_2)).trans hx628_2
                    replace p628 := eq_true p628
                    replace q628 := eq_true q628
                    try go_wp2_with (first | ((with_reducible refine gate_dst (N := 9) rfl ?_); refine box_event ?hg (N := 9) ?hd (cs := #[.int .i64 0, .int .i64 0, .int .i64 0]) (t := 59) ?hr ?_; (case hd => rfl); (case hg => rfl); (case hr => first | (go_simp; done) | (go_simp; rfl)); intro gb629 hg w51 hbox hb; have n0_ := Aside0.mk (Kd.R_below (qR HO_5.out) hb); have n1_ := Aside0.mk (Kd.R_below (qR HO_7.out) hb); have n2_ := Aside0.mk (Kd.R_below (Kd.R_elderB (qR HO_620001.out) gb629 (Nat.le_of_eq hg.symm)) hb); have n3_ := Aside0.mk (blk_below (g := gb616) (o := .cells #[.int .i64 a0_0, .slice (some ad628) l0_1.length c0_1, .slice A0_2 l0_2.length c0_2] 30 (0, 0)) (qK BK616.out) hb); have n4_ := Aside0.mk (blk_below (g := gb617) (o := .cells #[.int .i64 0, .slice none 0 0, .slice none 0 0] 30 (0, 0)) (qK BK617.out) hb); have n5_ := Aside0.mk (blk_below (g := gb619) (o := .cells #[.int .i64 a0_0, u620001, .slice none 0 0] 30 (0, 0)) (qK BK619.out) hb); have n6_ := Aside0.mk (below_step (qB) hb); have n7_ := Aside0.mk (hbox); have n8_ := Aside0.mk ((by rw [hg]; exact (below_size (qB)) : w.heap.size ≤ gb629)); have n9_ := Aside0.mk ((by rw [hg]; exact (below_size (qB)) : w.heap.size ≤ gb629)); have n10_ := Aside0.mk ((by rw [hg]; exact Nat.ne_of_lt (blk_lt (g := gb616) (o := .cells #[.int .i64 a0_0, .slice (some ad628) l0_1.length c0_1, .slice A0_2 l0_2.length c0_2] 30 (0, 0)) (qK BK616.out)) : gb616 ≠ gb629)); have n11_ := Aside0.mk ((by rw [hg]; exact Nat.ne_of_gt (blk_lt (g := gb616) (o := .cells #[.int .i64 a0_0, .slice (some ad628) l0_1.length c0_1, .slice A0_2 l0_2.length c0_2] 30 (0, 0)) (qK BK616.out)) : gb629 ≠ gb616)); have n12_ := Aside0.mk ((by rw [hg]; exact Nat.ne_of_lt (blk_lt (g := gb617) (o := .cells #[.int .i64 0, .slice none 0 0, .slice none 0 0] 30 (0, 0)) (qK BK617.out)) : gb617 ≠ gb629)); have n13_ := Aside0.mk ((by rw [hg]; exact Nat.ne_of_gt (blk_lt (g := gb617) (o := .cells #[.int .i64 0, .slice none 0 0, .slice none 0 0] 30 (0, 0)) (qK BK617.out)) : gb629 ≠ gb617)); have n14_ := Aside0.mk ((by rw [hg]; exact Nat.ne_of_lt (blk_lt (g := gb619) (o := .cells #[.int .i64 a0_0, u620001, .slice none 0 0] 30 (0, 0)) (qK BK619.out)) : gb619 ≠ gb629)); have n15_ := Aside0.mk ((by rw [hg]; exact Nat.ne_of_gt (blk_lt (g := gb619) (o := .cells #[.int .i64 a0_0, u620001, .slice none 0 0] 30 (0, 0)) (qK BK619.out)) : gb629 ≠ gb619)); clear HO_5; clear HO_7; clear HO_620001; clear BK616; clear BK617; clear BK619; clear HB; have HO_5 := n0_; have HO_7 := n1_; have HO_620001 := n2_; have BK616 := n3_; have BK617 := n4_; have BK619 := n5_; have HB := n6_; have BK629 := n7_; have GW629 := n8_; have GE629 := n9_; have NB616_629 := n10_; have NB629_616 := n11_; have NB617_629 := n12_; have NB629_617 := n13_; have NB619_629 := n14_; have NB629_619 := n15_; clear n0_ n1_ n2_ n3_ n4_ n5_ n6_ n7_ n8_ n9_ n10_ n11_ n12_ n13_ n14_ n15_; clear hb hbox hg; have hnb52 := NB629_616.out; have hnc52 := NB616_629.out; have hnb53 := NB629_617.out; have hnc53 := NB617_629.out; have hnb54 := NB629_619.out; have hnc54 := NB619_629.out; have hcz55_0 : w51.cell? ⟨gb629, 0, none⟩ = some (.int .i64 0) := (blk_cell BK629.out 0).trans rfl; have hcz55_1 : w51.cell? ⟨gb629, 1, none⟩ = some (.int .i64 0) := (blk_cell BK629.out 1).trans rfl; have hcz55_2 : w51.cell? ⟨gb629, 2, none⟩ = some (.int .i64 0) := (blk_cell BK629.out 2).trans rfl; have hfz55_0 := blk_frozen BK629.out 0; have hfz55_1 := blk_frozen BK629.out 1; have hfz55_2 := blk_frozen BK629.out 2; have hnb56 := NB616_617.out; have hnc56 := NB617_616.out; have hnb57 := NB616_619.out; have hnc57 := NB619_616.out; have hcz58_0 : w51.cell? ⟨gb616, 0, none⟩ = some (.int .i64 a0_0) := (blk_cell BK616.out 0).trans rfl; have hcz58_1 : w51.cell? ⟨gb616, 1, none⟩ = some (.slice (some ad628) l0_1.length c0_1) := (blk_cell BK616.out 1).trans rfl; have hcz58_2 : w51.cell? ⟨gb616, 2, none⟩ = some (.slice A0_2 l0_2.length c0_2) := (blk_cell BK616.out 2).trans rfl; have hfz58_0 := blk_frozen BK616.out 0; have hfz58_1 := blk_frozen BK616.out 1; have hfz58_2 := blk_frozen BK616.out 2; obtain ⟨Ao59, co59, eo59⟩ := Kd.R_slice HO_7.out; subst eo59) | ((with_reducible refine gate_callee (f := 56) rfl ?_); refine goesL_ (some 49) rfl rfl Try.func56 (by kernel_rfl) rfl #[.slice Ao59 t625.length co59, .int .i64 ji46] rfl (by (try simp only [List.map_toArray, List.map_cons, List.map_nil]); first | done | (simp only [hji46]; rfl) | rfl | (simp only [List.length_drop, List.length_take]; rfl)) ?_; (with_reducible refine (spec_l1Has.calls k2 _ _ t625 ji46 true _ ?side1 ?side2 A39.out).mono ?_); (case side1 => refine (Kd.R_reads' (e := 3) (base := w.heap.size) (ok := fun k_ => some k_ ≠ (v622 : Value).ownBlock) (n := t625.length) (c := co59) ?_).2.2; exact (by (with_reducible repeat (first | apply Kd.R_alloc | apply Kd.R_drewN | apply Kd.R_drew)); exact (Kd.R_mono (Kd.R_far (p := ⟨gb629, 2, none⟩) (Kd.R_far (p := ⟨gb629, 1, none⟩) (Kd.R_far (p := ⟨gb629, 0, none⟩) (Kd.R_types HO_7.out BK629.out (by decide)) (fun _ hk => hk.2) (.int .i64 ((rd_T59 l0_1 x39_2).f0))) (fun _ hk => hk.2) (.int .i64 ((rd_T59 l0_1 x39_2).f1))) (fun _ hk => hk.2) (.int .i64 ((rd_T59 l0_1 x39_2).f2))) (fun _ h_ => h_.1)))); (case side2 => exact (Kd.R_reads' HO_7.out).2.1); rintro e w60 ⟨rfl, hb⟩; refine ⟨_, rfl, ?_⟩; have n0_ := Aside0.mk (Kd.R_below (by (with_reducible repeat (first | apply Kd.R_alloc | apply Kd.R_drewN | apply Kd.R_drew)); exact (Kd.R_mono (Kd.R_far (p := ⟨gb629, 2, none⟩) (Kd.R_far (p := ⟨gb629, 1, none⟩) (Kd.R_far (p := ⟨gb629, 0, none⟩) (Kd.R_types HO_5.out BK629.out (by decide)) (fun _ hk => hk.2) (.int .i64 ((rd_T59 l0_1 x39_2).f0))) (fun _ hk => hk.2) (.int .i64 ((rd_T59 l0_1 x39_2).f1))) (fun _ hk => hk.2) (.int .i64 ((rd_T59 l0_1 x39_2).f2))) (fun _ h_ => h_.1))) hb); have n1_ := Aside0.mk (Kd.R_below (by (with_reducible repeat (first | apply Kd.R_alloc | apply Kd.R_drewN | apply Kd.R_drew)); exact (Kd.R_mono (Kd.R_far (p := ⟨gb629, 2, none⟩) (Kd.R_far (p := ⟨gb629, 1, none⟩) (Kd.R_far (p := ⟨gb629, 0, none⟩) (Kd.R_types HO_7.out BK629.out (by decide)) (fun _ hk => hk.2) (.int .i64 ((rd_T59 l0_1 x39_2).f0))) (fun _ hk => hk.2) (.int .i64 ((rd_T59 l0_1 x39_2).f1))) (fun _ hk => hk.2) (.int .i64 ((rd_T59 l0_1 x39_2).f2))) (fun _ h_ => h_.1))) hb); have n2_ := Aside0.mk (Kd.R_below (by (with_reducible repeat (first | apply Kd.R_alloc | apply Kd.R_drewN | apply Kd.R_drew)); exact (Kd.R_mono (Kd.R_far (p := ⟨gb629, 2, none⟩) (Kd.R_far (p := ⟨gb629, 1, none⟩) (Kd.R_far (p := ⟨gb629, 0, none⟩) (Kd.R_mono HO_620001.out (fun k_ hk => (⟨hk, hk.2⟩ : _ ∧ k_ ≠ gb629))) (fun _ hk => hk.2) (.int .i64 ((rd_T59 l0_1 x39_2).f0))) (fun _ hk => hk.2) (.int .i64 ((rd_T59 l0_1 x39_2).f1))) (fun _ hk => hk.2) (.int .i64 ((rd_T59 l0_1 x39_2).f2))) (fun _ h_ => h_.1))) hb); have n3_ := Aside0.mk (blk_below (g := gb616) (o := .cells #[.int .i64 a0_0, .slice (some ad628) l0_1.length c0_1, .slice A0_2 l0_2.length c0_2] 30 (0, 0)) (qF BK616.out) hb); have n4_ := Aside0.mk (blk_below (g := gb617) (o := .cells #[.int .i64 0, .slice none 0 0, .slice none 0 0] 30 (0, 0)) (qF BK617.out) hb); have n5_ := Aside0.mk (blk_below (g := gb619) (o := .cells #[.int .i64 a0_0, u620001, .slice none 0 0] 30 (0, 0)) (qF BK619.out) hb); have n6_ := Aside0.mk (blk_below (g := gb629) (o := .cells #[.int .i64 ((rd_T59 l0_1 x39_2).f0), .int .i64 ((rd_T59 l0_1 x39_2).f1), .int .i64 ((rd_T59 l0_1 x39_2).f2)] 59 (0, 0)) (by (with_reducible repeat (first | refine blk_drewN ?_ _ | refine blk_drew ?_ | refine blk_alloc ?_ _)); refine blk_put (cs := #[.int .i64 ((rd_T59 l0_1 x39_2).f0), .int .i64 ((rd_T59 l0_1 x39_2).f1), .int .i64 0]) ?_ 2 _ rfl; refine blk_put (cs := #[.int .i64 ((rd_T59 l0_1 x39_2).f0), .int .i64 0, .int .i64 0]) ?_ 1 _ rfl; refine blk_put (cs := #[.int .i64 0, .int .i64 0, .int .i64 0]) ?_ 0 _ rfl; exact qK BK629.out) hb); have n7_ := Aside0.mk (below_step (qB) hb); clear HO_5; clear HO_7; clear HO_620001; clear BK616; clear BK617; clear BK619; clear BK629; clear HB; have HO_5 := n0_; have HO_7 := n1_; have HO_620001 := n2_; have BK616 := n3_; have BK617 := n4_; have BK619 := n5_; have BK629 := n6_; have HB := n7_; clear n0_ n1_ n2_ n3_ n4_ n5_ n6_ n7_; (try clear hb); (try clear hb2); (try clear hk); (try clear hi); have hcz61_0 : w60.cell? ⟨gb629, 0, none⟩ = some (.int .i64 ((rd_T59 l0_1 x39_2).f0)) := (blk_cell BK629.out 0).trans rfl; have hcz61_1 : w60.cell? ⟨gb629, 1, none⟩ = some (.int .i64 ((rd_T59 l0_1 x39_2).f1)) := (blk_cell BK629.out 1).trans rfl; have hcz61_2 : w60.cell? ⟨gb629, 2, none⟩ = some (.int .i64 ((rd_T59 l0_1 x39_2).f2)) := (blk_cell BK629.out 2).trans rfl; have hfz61_0 := blk_frozen BK629.out 0; have hfz61_1 := blk_frozen BK629.out 1; have hfz61_2 := blk_frozen BK629.out 2; obtain ⟨Ao62, co62, eo62⟩ := Kd.R_slice HO_5.out; subst eo62; have p631 : 0 ≤ (((rd_T59 l0_1 x39_2).f2) : Int) := qD; have q631 : ((rd_T59 l0_1 x39_2).f2) < (x5_2.length : Int) := qD; obtain ⟨ad631, e631, hx631_0⟩ := Kd.at_int (Kd.R_reads' HO_5.out).2.2 ((rd_T59 l0_1 x39_2).f2) p631 q631; cases e631; replace p631 := eq_true p631; replace q631 := eq_true q631))
                    have n0_ : Aside0 (Kd.R (Kd.int .i64) 3 (w60.setCell ⟨gb629, 2, none⟩ (.int .i64 (rd x5_2 ((rd_T59 l0_1 x39_2).f2)))) w.heap.size (fun k_ => some k_ ≠ (.slice Ao59 t625.length co59 : Value).ownBlock) (.slice (some ad631) x5_2.length co62) x5_2) := ⟨by (with_reducible repeat (first | apply Kd.R_alloc | apply Kd.R_drewN | apply Kd.R_drew)); exact Kd.R_mono (Kd.R_far (p := ⟨gb629, 2, none⟩) (Kd.R_types HO_5.out BK629.out (by decide)) (fun _ hk => hk.2) (.int .i64 (rd x5_2 ((rd_T59 l0_1 x39_2).f2)))) (fun _ hk => hk.1)⟩
                    have n1_ : Aside0 (Kd.R (Kd.int .i64) 3 (w60.setCell ⟨gb629, 2, none⟩ (.int .i64 (rd x5_2 ((rd_T59 l0_1 x39_2).f2)))) w.heap.size (fun k_ => some k_ ≠ (.slice (some ad631) x5_2.length co62 : Value).ownBlock) (.slice Ao59 t625.length co59) t625) := ⟨by (with_reducible repeat (first | apply Kd.R_alloc | apply Kd.R_drewN | apply Kd.R_drew)); exact Kd.R_mono (Kd.R_far (p := ⟨gb629, 2, none⟩) (Kd.R_types HO_7.out BK629.out (by decide)) (fun _ hk => hk.2) (.int .i64 (rd x5_2 ((rd_T59 l0_1 x39_2).f2)))) (fun _ hk => hk.1)⟩
                    have n2_ : Aside0 (Kd.R k59 59 (w60.setCell ⟨gb629, 2, none⟩ (.int .i64 (rd x5_2 ((rd_T59 l0_1 x39_2).f2)))) w.heap.size (fun k_ => k_ ≠ gb629) u620001 x620001_2) := ⟨by (with_reducible repeat (first | apply Kd.R_alloc | apply Kd.R_drewN | apply Kd.R_drew)); exact Kd.R_mono (Kd.R_far (p := ⟨gb629, 2, none⟩) (Kd.R_mono HO_620001.out (fun k_ hk => (⟨hk, hk.2⟩ : _ ∧ k_ ≠ gb629))) (fun _ hk => hk.2) (.int .i64 (rd x5_2 ((rd_T59 l0_1 x39_2).f2)))) (fun _ hk => hk.1.2)⟩
                    have n3_ : Aside0 ((w60.setCell ⟨gb629, 2, none⟩ (.int .i64 (rd x5_2 ((rd_T59 l0_1 x39_2).f2)))).heap[gb616]? = some (.cells #[.int .i64 a0_0, .slice (some ad628) l0_1.length c0_1, .slice A0_2 l0_2.length c0_2] 30 (0, 0))) := ⟨by (with_reducible repeat (first | refine blk_drewN ?_ _ | refine blk_drew ?_ | refine blk_alloc ?_ _)); refine blk_far ?_ NB616_629.out _; exact qK BK616.out⟩
                    have n4_ : Aside0 ((w60.setCell ⟨gb629, 2, none⟩ (.int .i64 (rd x5_2 ((rd_T59 l0_1 x39_2).f2)))).heap[gb617]? = some (.cells #[.int .i64 0, .slice none 0 0, .slice none 0 0] 30 (0, 0))) := ⟨by (with_reducible repeat (first | refine blk_drewN ?_ _ | refine blk_drew ?_ | refine blk_alloc ?_ _)); refine blk_far ?_ NB617_629.out _; exact qK BK617.out⟩
                    have n5_ : Aside0 ((w60.setCell ⟨gb629, 2, none⟩ (.int .i64 (rd x5_2 ((rd_T59 l0_1 x39_2).f2)))).heap[gb619]? = some (.cells #[.int .i64 a0_0, u620001, .slice none 0 0] 30 (0, 0))) := ⟨by (with_reducible repeat (first | refine blk_drewN ?_ _ | refine blk_drew ?_ | refine blk_alloc ?_ _)); refine blk_far ?_ NB619_629.out _; exact qK BK619.out⟩
                    have n6_ : Aside0 ((w60.setCell ⟨gb629, 2, none⟩ (.int .i64 (rd x5_2 ((rd_T59 l0_1 x39_2).f2)))).heap[gb629]? = some (.cells #[.int .i64 ((rd_T59 l0_1 x39_2).f0), .int .i64 ((rd_T59 l0_1 x39_2).f1), .int .i64 (rd x5_2 ((rd_T59 l0_1 x39_2).f2))] 59 (0, 0))) := ⟨by (with_reducible repeat (first | refine blk_drewN ?_ _ | refine blk_drew ?_ | refine blk_alloc ?_ _)); refine blk_put (cs := #[.int .i64 ((rd_T59 l0_1 x39_2).f0), .int .i64 ((rd_T59 l0_1 x39_2).f1), .int .i64 ((rd_T59 l0_1 x39_2).f2)]) ?_ 2 _ rfl; exact qK BK629.out⟩
                    have n7_ : Aside0 (Below w.heap.size w (w60.setCell ⟨gb629, 2, none⟩ (.int .i64 (rd x5_2 ((rd_T59 l0_1 x39_2).f2))))) := ⟨qB⟩
                    (try clear HO_5)
                    (try clear HO_7)
                    (try clear HO_620001)
                    (try clear BK616)
                    (try clear BK617)
                    (try clear BK619)
                    (try clear BK629)
                    (try clear HB)
                    generalize (w60.setCell ⟨gb629, 2, none⟩ (.int .i64 (rd x5_2 ((rd_T59 l0_1 x39_2).f2)))) = w63 at n0_ n1_ n2_ n3_ n4_ n5_ n6_ n7_ ⊢
                    have HO_5 := n0_
                    have HO_7 := n1_
                    have HO_620001 := n2_
                    have BK616 := n3_
                    have BK617 := n4_
                    have BK619 := n5_
                    have BK629 := n6_
                    have HB := n7_
                    clear n0_ n1_ n2_ n3_ n4_ n5_ n6_ n7_
                    have n0_ := Aside0.mk (Kd.R_drew HO_5.out)
                    have n1_ := Aside0.mk (Kd.R_drew HO_7.out)
                    have n2_ := Aside0.mk (Kd.R_drew HO_620001.out)
                    have n3_ := Aside0.mk (blk_drew BK616.out)
                    have n4_ := Aside0.mk (blk_drew BK617.out)
                    have n5_ := Aside0.mk (blk_drew BK619.out)
                    have n6_ := Aside0.mk (blk_drew BK629.out)
                    have n7_ := Aside0.mk (below_drew1 HB.out)
                    clear HO_5
                    clear HO_7
                    clear HO_620001
                    clear BK616
                    clear BK617
                    clear BK619
                    clear BK629
                    clear HB
                    have HO_5 := n0_
                    have HO_7 := n1_
                    have HO_620001 := n2_
                    have BK616 := n3_
                    have BK617 := n4_
                    have BK619 := n5_
                    have BK629 := n6_
                    have HB := n7_
                    clear n0_ n1_ n2_ n3_ n4_ n5_ n6_ n7_
                    obtain ⟨Ao65, co65, eo65⟩ := Kd.R_slice HO_620001.out
                    (first | subst eo65 | (injection eo65 with f1_ f2_ f3_; have f4_ := f1_.symm; have f5_ := f3_.symm; clear f1_ f2_ f3_; subst f4_; subst f5_))
                    refine start_ (n := 9) (S := fun w' => w'.cell? ⟨gb616, 0, none⟩ = some (.int .i64 a0_0) ∧ w'.cell? ⟨gb616, 1, none⟩ = some (.slice (some ad628) l0_1.length c0_1) ∧ w'.cell? ⟨gb616, 2, none⟩ = some (.slice A0_2 l0_2.length c0_2) ∧ w'.cell? ⟨gb619, 0, none⟩ = some (.int .i64 a0_0) ∧ w'.cell? ⟨gb619, 1, none⟩ = some (.slice Ao65 x620001_2.length co65) ∧ w'.cell? ⟨gb619, 2, none⟩ = some (.slice none 0 0)) (ds := [8]) bX32_0 (by kernel_rfl) rfl rfl ⟨(blk_cell BK616.out 0).trans rfl, (blk_cell BK616.out 1).trans rfl, (blk_cell BK616.out 2).trans rfl, (blk_cell BK619.out 0).trans rfl, (blk_cell BK619.out 1).trans rfl, (blk_cell BK619.out 2).trans rfl⟩ (fun hHeld => ?_); refine with_tabW spec_PruneCircuit.tab18 spec_PruneCircuit.bits18 (fun HT_ HW_ => ?_)
                    generalize w63.drew = w64 at HO_5 HO_7 HO_620001 BK616 BK617 BK619 BK629 HB hHeld ⊢
                    refine pure_ (i := 0) (N := some 69) (v := ?_) (a' := ?_) bX32_1 rfl rfl (any_of HT_.out (by kernel_rfl)) (fun _ _ _ h => h) (Or.inl ⟨by rfl, ?_⟩) ?_ ?_
                    rotate_left
                    ·intro w'
                     go_simp
                     with_reducible rfl
                    rotate_left
                    ·simp only [Act.put, List.setIfInBounds_toArray, List.set_cons_zero, List.set_cons_succ, i64_w, i32_w]
                     rfl
                    refine pure_ (i := 1) (N := some 70) (v := ?_) (a' := ?_) bX32_2 rfl rfl (any_of HT_.out (by kernel_rfl)) (fun _ _ _ h => h) (Or.inl ⟨by rfl, ?_⟩) ?_ ?_
                    rotate_left
                    ·intro w'
                     go_simp
                     with_reducible rfl
                    rotate_left
                    ·simp only [Act.put, List.setIfInBounds_toArray, List.set_cons_zero, List.set_cons_succ, i64_w, i32_w]
                     rfl
                    refine pure_ (i := 3) (N := some 72) (v := ?_) (a' := ?_) bX32_3 rfl rfl (any_of HT_.out (by kernel_rfl)) (fun _ _ _ h => h) (Or.inl ⟨by rfl, ?_⟩) ?_ ?_
                    rotate_left
                    ·intro w'
                     go_simp
                     with_reducible rfl
                    rotate_left
                    ·simp only [Act.put, List.setIfInBounds_toArray, List.set_cons_zero, List.set_cons_succ, i64_w, i32_w]
                     rfl
                    refine take_ (i := 2) (N := some 71) (v := ?_) (a' := ?_) bX32_4 rfl rfl (take_ofW HT_.out HW_.out (by kernel_rfl)) (fun _ _ _ h => h) (Or.inl ⟨by rfl, ?_⟩) hHeld ?_ ?_
                    rotate_left
                    ·rintro w' ⟨s0, s1, s2, s3, s4, s5⟩
                     go_simp
                     with_reducible rfl
                    rotate_left
                    ·simp only [Act.put, List.setIfInBounds_toArray, List.set_cons_zero, List.set_cons_succ, i64_w, i32_w]
                     rfl
                    refine pure_ (i := 4) (N := some 73) (v := ?_) (a' := ?_) bX32_5 rfl rfl (any_of HT_.out (by kernel_rfl)) (fun _ _ _ h => h) (Or.inl ⟨by rfl, ?_⟩) ?_ ?_
                    rotate_left
                    ·intro w'
                     go_simp
                     with_reducible rfl
                    rotate_left
                    ·simp only [Act.put, List.setIfInBounds_toArray, List.set_cons_zero, List.set_cons_succ, i64_w, i32_w]
                     rfl
                    refine take_ (i := 5) (N := some 74) (v := ?_) (a' := ?_) bX32_6 rfl rfl (take_ofW HT_.out HW_.out (by kernel_rfl)) (fun _ _ _ h => h) (Or.inl ⟨by rfl, ?_⟩) hHeld ?_ ?_
                    rotate_left
                    ·rintro w' ⟨s0, s1, s2, s3, s4, s5⟩
                     go_simp
                     with_reducible rfl
                    rotate_left
                    ·simp only [Act.put, List.setIfInBounds_toArray, List.set_cons_zero, List.set_cons_succ, i64_w, i32_w]
                     rfl
                    refine one_ (i := 6) (N := some 75) bX32_7 rfl rfl (one_of HT_.out (by kernel_rfl)) (by decide) (fun K hK => ?_)
                    refine goes_ Try.func45 (by kernel_rfl) rfl #[.agg #[.int .i64 a0_0, .slice Ao65 x620001_2.length co65, .slice none 0 0]] (by rfl) rfl rfl qG ?_
                    refine (spec_l4Wires.calls a0_0 _ _ x620001_2 _ _ ([] : List Int) t632 _ ?side1 ?side2 ?side3 ?side4 A45.out).mono ?_
                    (case side1 => repeat (first | exact (Kd.R_reads' HO_620001.out).2.2 | (with_reducible refine Kd.C_alloc ?_ _) | (with_reducible refine Kd.C_drewN ?_ _) | (with_reducible refine Kd.C_drew ?_)))
                    (case side2 => exact (Kd.R_reads' HO_620001.out).2.1)
                    (case side3 => exact Kd.C_nil _ _)
                    (case side4 => exact Nat.le_refl _)
                    rintro e w66 ⟨rfl, hb⟩
                    refine ⟨_, rfl, ?_⟩
                    have n0_ := Aside0.mk (Kd.R_below (qR HO_5.out) hb)
                    have n1_ := Aside0.mk (Kd.R_below (qR HO_7.out) hb)
                    have n2_ := Aside0.mk (Kd.R_below (qR HO_620001.out) hb)
                    have n3_ := Aside0.mk (blk_below (g := gb616) (o := .cells #[.int .i64 a0_0, .slice (some ad628) l0_1.length c0_1, .slice A0_2 l0_2.length c0_2] 30 (0, 0)) (qK BK616.out) hb)
                    have n4_ := Aside0.mk (blk_below (g := gb617) (o := .cells #[.int .i64 0, .slice none 0 0, .slice none 0 0] 30 (0, 0)) (qK BK617.out) hb)
                    have n5_ := Aside0.mk (blk_below (g := gb619) (o := .cells #[.int .i64 a0_0, .slice Ao65 x620001_2.length co65, .slice none 0 0] 30 (0, 0)) (qK BK619.out) hb)
                    have n6_ := Aside0.mk (blk_below (g := gb629) (o := .cells #[.int .i64 ((rd_T59 l0_1 x39_2).f0), .int .i64 ((rd_T59 l0_1 x39_2).f1), .int .i64 (rd x5_2 ((rd_T59 l0_1 x39_2).f2))] 59 (0, 0)) (qK BK629.out) hb)
                    have n7_ := Aside0.mk (below_step (qB) hb)
                    clear HO_5
                    clear HO_7
                    clear HO_620001
                    clear BK616
                    clear BK617
                    clear BK619
                    clear BK629
                    clear HB
                    have HO_5 := n0_
                    have HO_7 := n1_
                    have HO_620001 := n2_
                    have BK616 := n3_
                    have BK617 := n4_
                    have BK619 := n5_
                    have BK629 := n6_
                    have HB := n7_
                    clear n0_ n1_ n2_ n3_ n4_ n5_ n6_ n7_
                    (try clear hb)
                    (try clear hb2)
                    (try clear hk)
                    (try clear hi)
                    have p49 : 0 ≤ ((ji46) : Int) := qD
                    have q49 : ((ji46) : Int) < ((x5_2.length : Int) : Int) := qD
                    obtain ⟨go49, co49, eo49, gb49, gl49, cl49, HG49⟩ := Kd.R_form HO_5.out (by omega)
                    (first | cases eo49 | (injection eo49 with ea_ en_ ec_; (first | subst ea_ | (injection ea_ with ea_; subst ea_)); subst ec_; clear en_))
                    have GB49 := Aside0.mk gb49
                    have GG49 := Aside0.mk HG49
                    clear gb49 gl49 HG49
                    (first | simp only [add_plain] at hx631_0 | skip)
                    obtain ⟨hx49_0, hf49_0⟩ := Kd.R_celln 0 HO_5.out ((ji46) : Int) p49 q49
                    replace p49 := eq_true p49
                    replace q49 := eq_true q49
                    have HP67 := Kd.R_putn HO_5.out ((ji46) : Int) t632
                    rw [← Ny633.out] at HP67
                    have HQ67 := Aside0.mk HP67
                    clear HP67
                    refine hK.out _ _ ⟨(blk_cell BK616.out 0).trans rfl, (blk_cell BK616.out 1).trans rfl, (blk_cell BK616.out 2).trans rfl, (blk_cell BK619.out 0).trans rfl, (blk_cell BK619.out 1).trans rfl, (blk_cell BK619.out 2).trans rfl⟩ (fun hHeld => ?_)
                    clear hK K
                    refine norm_ (a' := ?_) ?_ ?_
                    rotate_left
                    ·show Act.put _ (some 75) _ = _
                     simp only [Act.put, List.setIfInBounds_toArray, List.set_cons_zero, List.set_cons_succ, i64_w, i32_w]
                     rfl
                    refine pure_ (i := 7) (N := some 76) (v := ?_) (a' := ?_) bX32_8 rfl rfl (any_of HT_.out (by kernel_rfl)) (fun _ _ _ h => h) (Or.inl ⟨by rfl, ?_⟩) ?_ ?_
                    rotate_left
                    ·intro w'
                     go_simp
                     with_reducible rfl
                    rotate_left
                    ·simp only [Act.put, List.setIfInBounds_toArray, List.set_cons_zero, List.set_cons_succ, i64_w, i32_w]
                     rfl
                    refine last_ (i := 8) (N := none) bX32_9 rfl rfl (one_of HT_.out (by kernel_rfl)) (by decide) (fun K hK => ?_)
                    refine skip_ (w1 := ?_) (by rfl) rfl ?_ ?_
                    rotate_left
                    ·go_simp
                     rfl
                    refine hK.out _ _ ?_
                    clear hK K
                    refine done_ (done_of HT_.out (by kernel_rfl)) ?_
                    have n0_ : Aside0 (Kd.R (Kd.int .i64) 3 (w66.setCell ⟨go49, ((ji46) : Int).toNat, none⟩ (.int .i64 t632)) w.heap.size (fun k_ => some k_ ≠ (.slice Ao59 t625.length co59 : Value).ownBlock) (.slice (some ⟨go49, 0, none⟩) x5_2.length co62) y633) := ⟨qR HQ67.out⟩
                    have n1_ : Aside0 (Kd.R (Kd.int .i64) 3 (w66.setCell ⟨go49, ((ji46) : Int).toNat, none⟩ (.int .i64 t632)) w.heap.size (fun k_ => some k_ ≠ (.slice (some ⟨go49, 0, none⟩) x5_2.length co62 : Value).ownBlock) (.slice Ao59 t625.length co59) t625) := ⟨by (with_reducible repeat (first | apply Kd.R_alloc | apply Kd.R_drewN | apply Kd.R_drew)); exact Kd.R_mono (Kd.R_far (p := ⟨go49, ((ji46) : Int).toNat, none⟩) (Kd.R_mono HO_7.out (fun k_ hk => (⟨hk, fun e_ => hk (by rw [e_]; rfl)⟩ : _ ∧ k_ ≠ go49))) (fun _ hk => hk.2) (.int .i64 t632)) (fun _ hk => hk.1)⟩
                    have n2_ : Aside0 (Kd.R k59 59 (w66.setCell ⟨go49, ((ji46) : Int).toNat, none⟩ (.int .i64 t632)) w.heap.size (fun k_ => k_ ≠ gb629) (.slice Ao65 x620001_2.length co65) x620001_2) := ⟨by (with_reducible repeat (first | apply Kd.R_alloc | apply Kd.R_drewN | apply Kd.R_drew)); exact Kd.R_mono (Kd.R_far (p := ⟨go49, ((ji46) : Int).toNat, none⟩) (Kd.R_types HO_620001.out GG49.out (by decide)) (fun _ hk => hk.2) (.int .i64 t632)) (fun _ hk => hk.1)⟩
                    have n3_ : Aside0 ((w66.setCell ⟨go49, ((ji46) : Int).toNat, none⟩ (.int .i64 t632)).heap[gb616]? = some (.cells #[.int .i64 a0_0, .slice (some ad628) l0_1.length c0_1, .slice A0_2 l0_2.length c0_2] 30 (0, 0))) := ⟨by (with_reducible repeat (first | refine blk_drewN ?_ _ | refine blk_drew ?_ | refine blk_alloc ?_ _)); refine blk_far ?_ (by have h_ := Kd.R_ne HO_5.out BK616.out (by decide); intro e_; exact h_ (by rw [e_]; rfl)) _; exact qK BK616.out⟩
                    have n4_ : Aside0 ((w66.setCell ⟨go49, ((ji46) : Int).toNat, none⟩ (.int .i64 t632)).heap[gb617]? = some (.cells #[.int .i64 0, .slice none 0 0, .slice none 0 0] 30 (0, 0))) := ⟨by (with_reducible repeat (first | refine blk_drewN ?_ _ | refine blk_drew ?_ | refine blk_alloc ?_ _)); refine blk_far ?_ (by have h_ := Kd.R_ne HO_5.out BK617.out (by decide); intro e_; exact h_ (by rw [e_]; rfl)) _; exact qK BK617.out⟩
                    have n5_ : Aside0 ((w66.setCell ⟨go49, ((ji46) : Int).toNat, none⟩ (.int .i64 t632)).heap[gb619]? = some (.cells #[.int .i64 a0_0, .slice Ao65 x620001_2.length co65, .slice none 0 0] 30 (0, 0))) := ⟨by (with_reducible repeat (first | refine blk_drewN ?_ _ | refine blk_drew ?_ | refine blk_alloc ?_ _)); refine blk_far ?_ (by have h_ := Kd.R_ne HO_5.out BK619.out (by decide); intro e_; exact h_ (by rw [e_]; rfl)) _; exact qK BK619.out⟩
                    have n6_ : Aside0 ((w66.setCell ⟨go49, ((ji46) : Int).toNat, none⟩ (.int .i64 t632)).heap[gb629]? = some (.cells #[.int .i64 ((rd_T59 l0_1 x39_2).f0), .int .i64 ((rd_T59 l0_1 x39_2).f1), .int .i64 (rd x5_2 ((rd_T59 l0_1 x39_2).f2))] 59 (0, 0))) := ⟨by (with_reducible repeat (first | refine blk_drewN ?_ _ | refine blk_drew ?_ | refine blk_alloc ?_ _)); refine blk_far ?_ (by have h_ := Kd.R_ne HO_5.out BK629.out (by decide); intro e_; exact h_ (by rw [e_]; rfl)) _; exact qK BK629.out⟩
                    have n7_ : Aside0 (Below w.heap.size w (w66.setCell ⟨go49, ((ji46) : Int).toNat, none⟩ (.int .i64 t632))) := ⟨by repeat (first | (with_reducible first | exact HB.out | apply below_alloc | apply pw_below_drewN | apply below_drew1 | refine below_set ?_ GB49.out | refine below_set ?_ GE616.out | refine below_set ?_ GE617.out | refine below_set ?_ GE619.out | refine below_set ?_ GE629.out) | exact HB.out)⟩
                    (try clear HO_5)
                    (try clear HO_7)
                    (try clear HO_620001)
                    (try clear BK616)
                    (try clear BK617)
                    (try clear BK619)
                    (try clear BK629)
                    (try clear HB)
                    generalize (w66.setCell ⟨go49, ((ji46) : Int).toNat, none⟩ (.int .i64 t632)) = w68 at n0_ n1_ n2_ n3_ n4_ n5_ n6_ n7_ ⊢
                    have HO_5 := n0_
                    have HO_7 := n1_
                    have HO_620001 := n2_
                    have BK616 := n3_
                    have BK617 := n4_
                    have BK619 := n5_
                    have BK629 := n6_
                    have HB := n7_
                    clear n0_ n1_ n2_ n3_ n4_ n5_ n6_ n7_
                    have hnb69 := NB619_617.out
                    have hnc69 := NB617_619.out
                    have hcz70_0 : w68.cell? ⟨gb619, 0, none⟩ = some (.int .i64 a0_0) := (blk_cell BK619.out 0).trans rfl
                    have hcz70_1 : w68.cell? ⟨gb619, 1, none⟩ = some (.slice Ao65 x620001_2.length co65) := (blk_cell BK619.out 1).trans rfl
                    have hcz70_2 : w68.cell? ⟨gb619, 2, none⟩ = some (.slice none 0 0) := (blk_cell BK619.out 2).trans rfl
                    have hfz70_0 := blk_frozen BK619.out 0
                    have hfz70_1 := blk_frozen BK619.out 1
                    have hfz70_2 := blk_frozen BK619.out 2
                    have hcz71_0 : w68.cell? ⟨gb629, 0, none⟩ = some (.int .i64 ((rd_T59 l0_1 x39_2).f0)) := (blk_cell BK629.out 0).trans rfl
                    have hcz71_1 : w68.cell? ⟨gb629, 1, none⟩ = some (.int .i64 ((rd_T59 l0_1 x39_2).f1)) := (blk_cell BK629.out 1).trans rfl
                    have hcz71_2 : w68.cell? ⟨gb629, 2, none⟩ = some (.int .i64 (rd x5_2 ((rd_T59 l0_1 x39_2).f2))) := (blk_cell BK629.out 2).trans rfl
                    have hfz71_0 := blk_frozen BK629.out 0
                    have hfz71_1 := blk_frozen BK629.out 1
                    have hfz71_2 := blk_frozen BK629.out 2
                    try go_wp2_with (first | ((with_reducible refine gate_builtin (b := .append) (xs := #[.tmp 78, .tmp 80]) rfl ?_); at_builtin; refine Kd.R_append k59 (w0 := w) w.heap.size rfl (.tmp 78) (.tmp 80) 28 59 (.agg #[(.int .i64 0), (.int .i64 0), (.int .i64 0)]) 24 rfl Try.underlying28 info59 rfl (by decide) (by omega) (.slice Ao65 x620001_2.length co65) x620001_2 (⟨(rd_T59 l0_1 x39_2).f0, (rd_T59 l0_1 x39_2).f1, rd x5_2 ((rd_T59 l0_1 x39_2).f2)⟩ : S59) [.int .i64 ((rd_T59 l0_1 x39_2).f0), .int .i64 ((rd_T59 l0_1 x39_2).f1), .int .i64 (rd x5_2 ((rd_T59 l0_1 x39_2).f2))] (fun k_ => k_ ≠ gb629) (fun _ => False) rfl rfl ?aP (fun _ hk => hk.elim) ?aF ?aO ?aB ?aS ?aL ?_; (case aP => exact k59_mkM _ _ _ (⟨(rd_T59 l0_1 x39_2).f0, (rd_T59 l0_1 x39_2).f1, rd x5_2 ((rd_T59 l0_1 x39_2).f2)⟩ : S59)); (case aB => exact (qB)); (case aF => exact (fun k_ hk => Kd.freshB (g := gb629) (o := .cells #[.int .i64 ((rd_T59 l0_1 x39_2).f0), .int .i64 ((rd_T59 l0_1 x39_2).f1), .int .i64 (rd x5_2 ((rd_T59 l0_1 x39_2).f2))] 59 (0, 0)) (qK BK629.out) k_ hk)); (case aO => exact (qR HO_620001.out)); (case aS => exact (below_size (qB))); (case aL => have := LMc50.out; omega); intro v635 w72 ho hb hg hat; rw [← Ny634.out] at ho; have n0_ := Aside0.mk (Kd.R_over' (qR HO_5.out) (Kd.R_typed (qR HO_620001.out)) (by decide) hg); have n1_ := Aside0.mk (Kd.R_over' (qR HO_7.out) (Kd.R_typed (qR HO_620001.out)) (by decide) hg); have n2_ := Aside0.mk (blk_grown (g := gb616) (o := .cells #[.int .i64 a0_0, .slice (some ad628) l0_1.length c0_1, .slice A0_2 l0_2.length c0_2] 30 (0, 0)) (qK BK616.out) hg (Kd.R_ne HO_620001.out BK616.out (by decide))); have n3_ := Aside0.mk (blk_grown (g := gb617) (o := .cells #[.int .i64 0, .slice none 0 0, .slice none 0 0] 30 (0, 0)) (qK BK617.out) hg (Kd.R_ne HO_620001.out BK617.out (by decide))); have n4_ := Aside0.mk (blk_grown (g := gb619) (o := .cells #[.int .i64 a0_0, .slice Ao65 x620001_2.length co65, .slice none 0 0] 30 (0, 0)) (qK BK619.out) hg (Kd.R_ne HO_620001.out BK619.out (by decide))); have n5_ := Aside0.mk (blk_grown (g := gb629) (o := .cells #[.int .i64 ((rd_T59 l0_1 x39_2).f0), .int .i64 ((rd_T59 l0_1 x39_2).f1), .int .i64 (rd x5_2 ((rd_T59 l0_1 x39_2).f2))] 59 (0, 0)) (qK BK629.out) hg (Kd.R_away HO_620001.out (fun _ hk => hk))); have n6_ := Aside0.mk (hb); have n7_ := Aside0.mk (ho); clear HO_5; clear HO_7; clear BK616; clear BK617; clear BK619; clear BK629; clear HB; clear HO_620001; have HO_5 := n0_; have HO_7 := n1_; have BK616 := n2_; have BK617 := n3_; have BK619 := n4_; have BK629 := n5_; have HB := n6_; have HO636 := n7_; clear n0_ n1_ n2_ n3_ n4_ n5_ n6_ n7_; clear ho hb hg hat; obtain ⟨Ao73, co73, eo73⟩ := Kd.R_slice HO636.out; subst eo73; have hcz74_0 : w72.cell? ⟨gb619, 0, none⟩ = some (.int .i64 a0_0) := (blk_cell BK619.out 0).trans rfl; have hcz74_1 : w72.cell? ⟨gb619, 1, none⟩ = some (.slice Ao65 x620001_2.length co65) := (blk_cell BK619.out 1).trans rfl; have hcz74_2 : w72.cell? ⟨gb619, 2, none⟩ = some (.slice none 0 0) := (blk_cell BK619.out 2).trans rfl; have hfz74_0 := blk_frozen BK619.out 0; have hfz74_1 := blk_frozen BK619.out 1; have hfz74_2 := blk_frozen BK619.out 2))
                    go_roundg k2
                    case measure => have := HK1.out; have := HK2.out; omega
                    case rel => exact ⟨(y633), (wrap64 (x39_2 + 1)), (y634), (.slice Ao73 y634.length co73), qS, H', ⟨by have := HK1.out; have := HK2.out; omega⟩, ⟨by (with_reducible repeat (first | apply Kd.R_alloc | apply Kd.R_drewN | apply Kd.R_drew)); exact Kd.R_mono (Kd.R_far (p := ⟨gb619, 1, none⟩) (Kd.R_types HO_5.out BK619.out (by decide)) (fun _ hk => hk.2) (.slice Ao73 y634.length co73)) (fun _ hk => hk.1)⟩, ⟨by (with_reducible repeat (first | apply Kd.R_alloc | apply Kd.R_drewN | apply Kd.R_drew)); exact Kd.R_mono (Kd.R_far (p := ⟨gb619, 1, none⟩) (Kd.R_types HO_7.out BK619.out (by decide)) (fun _ hk => hk.2) (.slice Ao73 y634.length co73)) (fun _ hk => hk.1)⟩, ⟨by (with_reducible repeat (first | apply Kd.R_alloc | apply Kd.R_drewN | apply Kd.R_drew)); exact Kd.R_mono (Kd.R_far (p := ⟨gb619, 1, none⟩) (Kd.R_types HO636.out BK619.out (by decide)) (fun _ hk => hk.2) (.slice Ao73 y634.length co73)) (fun _ hk => trivial)⟩, ⟨by (with_reducible repeat (first | refine blk_drewN ?_ _ | refine blk_drew ?_ | refine blk_alloc ?_ _)); refine blk_far ?_ NB616_619.out _; exact qK BK616.out⟩, ⟨by (with_reducible repeat (first | refine blk_drewN ?_ _ | refine blk_drew ?_ | refine blk_alloc ?_ _)); refine blk_far ?_ NB617_619.out _; exact qK BK617.out⟩, ⟨by (with_reducible repeat (first | refine blk_drewN ?_ _ | refine blk_drew ?_ | refine blk_alloc ?_ _)); refine blk_put (cs := #[.int .i64 a0_0, .slice Ao65 x620001_2.length co65, .slice none 0 0]) ?_ 1 _ rfl; exact qK BK619.out⟩, ⟨qB⟩⟩
                   ·rw [if_neg c50] at H
                    exact absurd H (by simp)
                  ·rw [if_neg c48] at H
                   exact absurd H (by simp)
                 ·rw [if_neg c47] at H
                  exact absurd H (by simp)
                ·rw [if_neg c44] at H
                 exact absurd H (by simp)
               ·rw [if_neg c43] at H
                exact absurd H (by simp)
              ·rw [if_neg c42] at H
               have c42b0 : decide (2 < ((rd_T59 l0_1 x39_2).f0)) = false := decide_eq_false c42
               clear c42
               replace H := Option.bind_eq_some_iff.mp H
               obtain ⟨t637, A750, H⟩ := H
               replace H : (if 0 ≤ (wrap64 (a0_0 + x39_2)) then (if (wrap64 (a0_0 + x39_2)) < (x5_2.length : Int) then (if x620001_2.length < 5864062014805 then (spec_PruneCircuit.l1 k2 (x5_2.set ((wrap64 (a0_0 + x39_2)) : Int).toNat t637) t625 l0_1 (l0_1.length : Int) (wrap64 (x39_2 + 1)) a0_0 l0_1 l0_2 a0_0 (x620001_2 ++ [(⟨(rd_T59 l0_1 x39_2).f0, (rd_T59 l0_1 x39_2).f1, (rd_T59 l0_1 x39_2).f2⟩ : S59)])) else (none)) else (none)) else (none)) = some (r1, r2, r3, r4) := H
               have A75 := Aside0.mk A750
               clear A750
               obtain ⟨ji76, hji76⟩ : ∃ j_ : Int, (wrap64 (a0_0 + x39_2)) = j_ := ⟨_, rfl⟩
               replace H : (if 0 ≤ (ji76) then (if (ji76) < (x5_2.length : Int) then (if x620001_2.length < 5864062014805 then (spec_PruneCircuit.l1 k2 (x5_2.set ((ji76) : Int).toNat t637) t625 l0_1 (l0_1.length : Int) (wrap64 (x39_2 + 1)) a0_0 l0_1 l0_2 a0_0 (x620001_2 ++ [(⟨(rd_T59 l0_1 x39_2).f0, (rd_T59 l0_1 x39_2).f1, (rd_T59 l0_1 x39_2).f2⟩ : S59)])) else (none)) else (none)) else (none)) = some (r1, r2, r3, r4) := by first | (rw [hji76] at H; exact H) | (simp only [hji76] at H ⊢; exact H)
               (try rw [hji76] at A39)
               (try rw [hji76] at A75)
               have hji76w : (IntKind.i64.wrap (a0_0 + x39_2)) = ji76 := (i64_w _).trans hji76
               by_cases c77 : 0 ≤ (ji76)
               ·rw [if_pos c77] at H
                have c77b0 : decide (0 ≤ (ji76)) = true := decide_eq_true c77
                clear c77
                by_cases c78 : (ji76) < (x5_2.length : Int)
                ·rw [if_pos c78] at H
                 have c78b0 : decide ((ji76) < (x5_2.length : Int)) = true := decide_eq_true c78
                 clear c78
                 obtain ⟨y638, hy638⟩ : ∃ y_ : List Int, y_ = (x5_2.set ((ji76) : Int).toNat t637) := ⟨_, rfl⟩
                 replace H : (if x620001_2.length < 5864062014805 then (spec_PruneCircuit.l1 k2 y638 t625 l0_1 (l0_1.length : Int) (wrap64 (x39_2 + 1)) a0_0 l0_1 l0_2 a0_0 (x620001_2 ++ [(⟨(rd_T59 l0_1 x39_2).f0, (rd_T59 l0_1 x39_2).f1, (rd_T59 l0_1 x39_2).f2⟩ : S59)])) else (none)) = some (r1, r2, r3, r4) := qY hy638 H
                 have Ny638 := Aside0.mk hy638
                 clear hy638
                 by_cases c80 : x620001_2.length < 5864062014805
                 ·rw [if_pos c80] at H
                  have LMc80 := Aside0.mk c80
                  clear c80
                  obtain ⟨y639, hy639⟩ : ∃ y_ : List (S59), y_ = (x620001_2 ++ [(⟨(rd_T59 l0_1 x39_2).f0, (rd_T59 l0_1 x39_2).f1, (rd_T59 l0_1 x39_2).f2⟩ : S59)]) := ⟨_, rfl⟩
                  replace H : (spec_PruneCircuit.l1 k2 y638 t625 l0_1 (l0_1.length : Int) (wrap64 (x39_2 + 1)) a0_0 l0_1 l0_2 a0_0 y639) = some (r1, r2, r3, r4) := qY hy639 H
                  have Ny639 := Aside0.mk hy639
                  clear hy639
                  have H' := Aside0.mk H
                  clear H
                  have p628 : 0 ≤ (x39_2 : Int) := qD
                  have q628 : x39_2 < (l0_1.length : Int) := qD
                  obtain ⟨ad628, e628, hx628_0, hx628_1, hx628_2⟩ := at_T59 HR0_1.out x39_2 p628 q628
                  cases e628
                  replace hx628_0 := (HB.out.cell (World.block_lt_of_cell? w _ hx628_0)).trans hx628_0
                  replace hx628_1 := (HB.out.cell (World.block_lt_of_cell? w _ hx628_1)).trans hx628_1
                  replace hx628_2 := (HB.out.cell (World.block_lt_of_cell? w _ hx628_2)).trans hx628_2
                  replace p628 := eq_true p628
                  replace q628 := eq_true q628
                  try go_wp2_with (first | ((with_reducible refine gate_dst (N := 9) rfl ?_); refine box_event ?hg (N := 9) ?hd (cs := #[.int .i64 0, .int .i64 0, .int .i64 0]) (t := 59) ?hr ?_; (case hd => rfl); (case hg => rfl); (case hr => first | (go_simp; done) | (go_simp; rfl)); intro gb629 hg w81 hbox hb; have n0_ := Aside0.mk (Kd.R_below (qR HO_5.out) hb); have n1_ := Aside0.mk (Kd.R_below (qR HO_7.out) hb); have n2_ := Aside0.mk (Kd.R_below (Kd.R_elderB (qR HO_620001.out) gb629 (Nat.le_of_eq hg.symm)) hb); have n3_ := Aside0.mk (blk_below (g := gb616) (o := .cells #[.int .i64 a0_0, .slice (some ad628) l0_1.length c0_1, .slice A0_2 l0_2.length c0_2] 30 (0, 0)) (qK BK616.out) hb); have n4_ := Aside0.mk (blk_below (g := gb617) (o := .cells #[.int .i64 0, .slice none 0 0, .slice none 0 0] 30 (0, 0)) (qK BK617.out) hb); have n5_ := Aside0.mk (blk_below (g := gb619) (o := .cells #[.int .i64 a0_0, u620001, .slice none 0 0] 30 (0, 0)) (qK BK619.out) hb); have n6_ := Aside0.mk (below_step (qB) hb); have n7_ := Aside0.mk (hbox); have n8_ := Aside0.mk ((by rw [hg]; exact (below_size (qB)) : w.heap.size ≤ gb629)); have n9_ := Aside0.mk ((by rw [hg]; exact (below_size (qB)) : w.heap.size ≤ gb629)); have n10_ := Aside0.mk ((by rw [hg]; exact Nat.ne_of_lt (blk_lt (g := gb616) (o := .cells #[.int .i64 a0_0, .slice (some ad628) l0_1.length c0_1, .slice A0_2 l0_2.length c0_2] 30 (0, 0)) (qK BK616.out)) : gb616 ≠ gb629)); have n11_ := Aside0.mk ((by rw [hg]; exact Nat.ne_of_gt (blk_lt (g := gb616) (o := .cells #[.int .i64 a0_0, .slice (some ad628) l0_1.length c0_1, .slice A0_2 l0_2.length c0_2] 30 (0, 0)) (qK BK616.out)) : gb629 ≠ gb616)); have n12_ := Aside0.mk ((by rw [hg]; exact Nat.ne_of_lt (blk_lt (g := gb617) (o := .cells #[.int .i64 0, .slice none 0 0, .slice none 0 0] 30 (0, 0)) (qK BK617.out)) : gb617 ≠ gb629)); have n13_ := Aside0.mk ((by rw [hg]; exact Nat.ne_of_gt (blk_lt (g := gb617) (o := .cells #[.int .i64 0, .slice none 0 0, .slice none 0 0] 30 (0, 0)) (qK BK617.out)) : gb629 ≠ gb617)); have n14_ := Aside0.mk ((by rw [hg]; exact Nat.ne_of_lt (blk_lt (g := gb619) (o := .cells #[.int .i64 a0_0, u620001, .slice none 0 0] 30 (0, 0)) (qK BK619.out)) : gb619 ≠ gb629)); have n15_ := Aside0.mk ((by rw [hg]; exact Nat.ne_of_gt (blk_lt (g := gb619) (o := .cells #[.int .i64 a0_0, u620001, .slice none 0 0] 30 (0, 0)) (qK BK619.out)) : gb629 ≠ gb619)); clear HO_5; clear HO_7; clear HO_620001; clear BK616; clear BK617; clear BK619; clear HB; have HO_5 := n0_; have HO_7 := n1_; have HO_620001 := n2_; have BK616 := n3_; have BK617 := n4_; have BK619 := n5_; have HB := n6_; have BK629 := n7_; have GW629 := n8_; have GE629 := n9_; have NB616_629 := n10_; have NB629_616 := n11_; have NB617_629 := n12_; have NB629_617 := n13_; have NB619_629 := n14_; have NB629_619 := n15_; clear n0_ n1_ n2_ n3_ n4_ n5_ n6_ n7_ n8_ n9_ n10_ n11_ n12_ n13_ n14_ n15_; clear hb hbox hg; have hnb82 := NB629_616.out; have hnc82 := NB616_629.out; have hnb83 := NB629_617.out; have hnc83 := NB617_629.out; have hnb84 := NB629_619.out; have hnc84 := NB619_629.out; have hcz85_0 : w81.cell? ⟨gb629, 0, none⟩ = some (.int .i64 0) := (blk_cell BK629.out 0).trans rfl; have hcz85_1 : w81.cell? ⟨gb629, 1, none⟩ = some (.int .i64 0) := (blk_cell BK629.out 1).trans rfl; have hcz85_2 : w81.cell? ⟨gb629, 2, none⟩ = some (.int .i64 0) := (blk_cell BK629.out 2).trans rfl; have hfz85_0 := blk_frozen BK629.out 0; have hfz85_1 := blk_frozen BK629.out 1; have hfz85_2 := blk_frozen BK629.out 2; have hnb86 := NB616_617.out; have hnc86 := NB617_616.out; have hnb87 := NB616_619.out; have hnc87 := NB619_616.out; have hcz88_0 : w81.cell? ⟨gb616, 0, none⟩ = some (.int .i64 a0_0) := (blk_cell BK616.out 0).trans rfl; have hcz88_1 : w81.cell? ⟨gb616, 1, none⟩ = some (.slice (some ad628) l0_1.length c0_1) := (blk_cell BK616.out 1).trans rfl; have hcz88_2 : w81.cell? ⟨gb616, 2, none⟩ = some (.slice A0_2 l0_2.length c0_2) := (blk_cell BK616.out 2).trans rfl; have hfz88_0 := blk_frozen BK616.out 0; have hfz88_1 := blk_frozen BK616.out 1; have hfz88_2 := blk_frozen BK616.out 2; obtain ⟨Ao89, co89, eo89⟩ := Kd.R_slice HO_7.out; subst eo89) | ((with_reducible refine gate_callee (f := 56) rfl ?_); refine goesL_ (some 49) rfl rfl Try.func56 (by kernel_rfl) rfl #[.slice Ao89 t625.length co89, .int .i64 ji76] rfl (by (try simp only [List.map_toArray, List.map_cons, List.map_nil]); first | done | (simp only [hji76]; rfl) | rfl | (simp only [List.length_drop, List.length_take]; rfl)) ?_; (with_reducible refine (spec_l1Has.calls k2 _ _ t625 ji76 true _ ?side1 ?side2 A39.out).mono ?_); (case side1 => refine (Kd.R_reads' (e := 3) (base := w.heap.size) (ok := fun k_ => some k_ ≠ (v622 : Value).ownBlock) (n := t625.length) (c := co89) ?_).2.2; exact (by (with_reducible repeat (first | apply Kd.R_alloc | apply Kd.R_drewN | apply Kd.R_drew)); exact (Kd.R_mono (Kd.R_far (p := ⟨gb629, 2, none⟩) (Kd.R_far (p := ⟨gb629, 1, none⟩) (Kd.R_far (p := ⟨gb629, 0, none⟩) (Kd.R_types HO_7.out BK629.out (by decide)) (fun _ hk => hk.2) (.int .i64 ((rd_T59 l0_1 x39_2).f0))) (fun _ hk => hk.2) (.int .i64 ((rd_T59 l0_1 x39_2).f1))) (fun _ hk => hk.2) (.int .i64 ((rd_T59 l0_1 x39_2).f2))) (fun _ h_ => h_.1)))); (case side2 => exact (Kd.R_reads' HO_7.out).2.1); rintro e w90 ⟨rfl, hb⟩; refine ⟨_, rfl, ?_⟩; have n0_ := Aside0.mk (Kd.R_below (by (with_reducible repeat (first | apply Kd.R_alloc | apply Kd.R_drewN | apply Kd.R_drew)); exact (Kd.R_mono (Kd.R_far (p := ⟨gb629, 2, none⟩) (Kd.R_far (p := ⟨gb629, 1, none⟩) (Kd.R_far (p := ⟨gb629, 0, none⟩) (Kd.R_types HO_5.out BK629.out (by decide)) (fun _ hk => hk.2) (.int .i64 ((rd_T59 l0_1 x39_2).f0))) (fun _ hk => hk.2) (.int .i64 ((rd_T59 l0_1 x39_2).f1))) (fun _ hk => hk.2) (.int .i64 ((rd_T59 l0_1 x39_2).f2))) (fun _ h_ => h_.1))) hb); have n1_ := Aside0.mk (Kd.R_below (by (with_reducible repeat (first | apply Kd.R_alloc | apply Kd.R_drewN | apply Kd.R_drew)); exact (Kd.R_mono (Kd.R_far (p := ⟨gb629, 2, none⟩) (Kd.R_far (p := ⟨gb629, 1, none⟩) (Kd.R_far (p := ⟨gb629, 0, none⟩) (Kd.R_types HO_7.out BK629.out (by decide)) (fun _ hk => hk.2) (.int .i64 ((rd_T59 l0_1 x39_2).f0))) (fun _ hk => hk.2) (.int .i64 ((rd_T59 l0_1 x39_2).f1))) (fun _ hk => hk.2) (.int .i64 ((rd_T59 l0_1 x39_2).f2))) (fun _ h_ => h_.1))) hb); have n2_ := Aside0.mk (Kd.R_below (by (with_reducible repeat (first | apply Kd.R_alloc | apply Kd.R_drewN | apply Kd.R_drew)); exact (Kd.R_mono (Kd.R_far (p := ⟨gb629, 2, none⟩) (Kd.R_far (p := ⟨gb629, 1, none⟩) (Kd.R_far (p := ⟨gb629, 0, none⟩) (Kd.R_mono HO_620001.out (fun k_ hk => (⟨hk, hk.2⟩ : _ ∧ k_ ≠ gb629))) (fun _ hk => hk.2) (.int .i64 ((rd_T59 l0_1 x39_2).f0))) (fun _ hk => hk.2) (.int .i64 ((rd_T59 l0_1 x39_2).f1))) (fun _ hk => hk.2) (.int .i64 ((rd_T59 l0_1 x39_2).f2))) (fun _ h_ => h_.1))) hb); have n3_ := Aside0.mk (blk_below (g := gb616) (o := .cells #[.int .i64 a0_0, .slice (some ad628) l0_1.length c0_1, .slice A0_2 l0_2.length c0_2] 30 (0, 0)) (qF BK616.out) hb); have n4_ := Aside0.mk (blk_below (g := gb617) (o := .cells #[.int .i64 0, .slice none 0 0, .slice none 0 0] 30 (0, 0)) (qF BK617.out) hb); have n5_ := Aside0.mk (blk_below (g := gb619) (o := .cells #[.int .i64 a0_0, u620001, .slice none 0 0] 30 (0, 0)) (qF BK619.out) hb); have n6_ := Aside0.mk (blk_below (g := gb629) (o := .cells #[.int .i64 ((rd_T59 l0_1 x39_2).f0), .int .i64 ((rd_T59 l0_1 x39_2).f1), .int .i64 ((rd_T59 l0_1 x39_2).f2)] 59 (0, 0)) (by (with_reducible repeat (first | refine blk_drewN ?_ _ | refine blk_drew ?_ | refine blk_alloc ?_ _)); refine blk_put (cs := #[.int .i64 ((rd_T59 l0_1 x39_2).f0), .int .i64 ((rd_T59 l0_1 x39_2).f1), .int .i64 0]) ?_ 2 _ rfl; refine blk_put (cs := #[.int .i64 ((rd_T59 l0_1 x39_2).f0), .int .i64 0, .int .i64 0]) ?_ 1 _ rfl; refine blk_put (cs := #[.int .i64 0, .int .i64 0, .int .i64 0]) ?_ 0 _ rfl; exact qK BK629.out) hb); have n7_ := Aside0.mk (below_step (qB) hb); clear HO_5; clear HO_7; clear HO_620001; clear BK616; clear BK617; clear BK619; clear BK629; clear HB; have HO_5 := n0_; have HO_7 := n1_; have HO_620001 := n2_; have BK616 := n3_; have BK617 := n4_; have BK619 := n5_; have BK629 := n6_; have HB := n7_; clear n0_ n1_ n2_ n3_ n4_ n5_ n6_ n7_; (try clear hb); (try clear hb2); (try clear hk); (try clear hi); have hcz91_0 : w90.cell? ⟨gb629, 0, none⟩ = some (.int .i64 ((rd_T59 l0_1 x39_2).f0)) := (blk_cell BK629.out 0).trans rfl; have hcz91_1 : w90.cell? ⟨gb629, 1, none⟩ = some (.int .i64 ((rd_T59 l0_1 x39_2).f1)) := (blk_cell BK629.out 1).trans rfl; have hcz91_2 : w90.cell? ⟨gb629, 2, none⟩ = some (.int .i64 ((rd_T59 l0_1 x39_2).f2)) := (blk_cell BK629.out 2).trans rfl; have hfz91_0 := blk_frozen BK629.out 0; have hfz91_1 := blk_frozen BK629.out 1; have hfz91_2 := blk_frozen BK629.out 2))
                  have n0_ := Aside0.mk (Kd.R_drew HO_5.out)
                  have n1_ := Aside0.mk (Kd.R_drew HO_7.out)
                  have n2_ := Aside0.mk (Kd.R_drew HO_620001.out)
                  have n3_ := Aside0.mk (blk_drew BK616.out)
                  have n4_ := Aside0.mk (blk_drew BK617.out)
                  have n5_ := Aside0.mk (blk_drew BK619.out)
                  have n6_ := Aside0.mk (blk_drew BK629.out)
                  have n7_ := Aside0.mk (below_drew1 HB.out)
                  clear HO_5
                  clear HO_7
                  clear HO_620001
                  clear BK616
                  clear BK617
                  clear BK619
                  clear BK629
                  clear HB
                  have HO_5 := n0_
                  have HO_7 := n1_
                  have HO_620001 := n2_
                  have BK616 := n3_
                  have BK617 := n4_
                  have BK619 := n5_
                  have BK629 := n6_
                  have HB := n7_
                  clear n0_ n1_ n2_ n3_ n4_ n5_ n6_ n7_
                  obtain ⟨Ao93, co93, eo93⟩ := Kd.R_slice HO_620001.out
                  (first | subst eo93 | (injection eo93 with f1_ f2_ f3_; have f4_ := f1_.symm; have f5_ := f3_.symm; clear f1_ f2_ f3_; subst f4_; subst f5_))
                  refine start_ (n := 9) (S := fun w' => w'.cell? ⟨gb616, 0, none⟩ = some (.int .i64 a0_0) ∧ w'.cell? ⟨gb616, 1, none⟩ = some (.slice (some ad628) l0_1.length c0_1) ∧ w'.cell? ⟨gb616, 2, none⟩ = some (.slice A0_2 l0_2.length c0_2) ∧ w'.cell? ⟨gb619, 0, none⟩ = some (.int .i64 a0_0) ∧ w'.cell? ⟨gb619, 1, none⟩ = some (.slice Ao93 x620001_2.length co93) ∧ w'.cell? ⟨gb619, 2, none⟩ = some (.slice none 0 0)) (ds := [8]) bX32_0 (by kernel_rfl) rfl rfl ⟨(blk_cell BK616.out 0).trans rfl, (blk_cell BK616.out 1).trans rfl, (blk_cell BK616.out 2).trans rfl, (blk_cell BK619.out 0).trans rfl, (blk_cell BK619.out 1).trans rfl, (blk_cell BK619.out 2).trans rfl⟩ (fun hHeld => ?_); refine with_tabW spec_PruneCircuit.tab18 spec_PruneCircuit.bits18 (fun HT_ HW_ => ?_)
                  generalize w90.drew = w92 at HO_5 HO_7 HO_620001 BK616 BK617 BK619 BK629 HB hHeld ⊢
                  refine pure_ (i := 0) (N := some 69) (v := ?_) (a' := ?_) bX32_1 rfl rfl (any_of HT_.out (by kernel_rfl)) (fun _ _ _ h => h) (Or.inl ⟨by rfl, ?_⟩) ?_ ?_
                  rotate_left
                  ·intro w'
                   go_simp
                   with_reducible rfl
                  rotate_left
                  ·simp only [Act.put, List.setIfInBounds_toArray, List.set_cons_zero, List.set_cons_succ, i64_w, i32_w]
                   rfl
                  refine pure_ (i := 1) (N := some 70) (v := ?_) (a' := ?_) bX32_2 rfl rfl (any_of HT_.out (by kernel_rfl)) (fun _ _ _ h => h) (Or.inl ⟨by rfl, ?_⟩) ?_ ?_
                  rotate_left
                  ·intro w'
                   go_simp
                   with_reducible rfl
                  rotate_left
                  ·simp only [Act.put, List.setIfInBounds_toArray, List.set_cons_zero, List.set_cons_succ, i64_w, i32_w]
                   rfl
                  refine pure_ (i := 3) (N := some 72) (v := ?_) (a' := ?_) bX32_3 rfl rfl (any_of HT_.out (by kernel_rfl)) (fun _ _ _ h => h) (Or.inl ⟨by rfl, ?_⟩) ?_ ?_
                  rotate_left
                  ·intro w'
                   go_simp
                   with_reducible rfl
                  rotate_left
                  ·simp only [Act.put, List.setIfInBounds_toArray, List.set_cons_zero, List.set_cons_succ, i64_w, i32_w]
                   rfl
                  refine take_ (i := 2) (N := some 71) (v := ?_) (a' := ?_) bX32_4 rfl rfl (take_ofW HT_.out HW_.out (by kernel_rfl)) (fun _ _ _ h => h) (Or.inl ⟨by rfl, ?_⟩) hHeld ?_ ?_
                  rotate_left
                  ·rintro w' ⟨s0, s1, s2, s3, s4, s5⟩
                   go_simp
                   with_reducible rfl
                  rotate_left
                  ·simp only [Act.put, List.setIfInBounds_toArray, List.set_cons_zero, List.set_cons_succ, i64_w, i32_w]
                   rfl
                  refine pure_ (i := 4) (N := some 73) (v := ?_) (a' := ?_) bX32_5 rfl rfl (any_of HT_.out (by kernel_rfl)) (fun _ _ _ h => h) (Or.inl ⟨by rfl, ?_⟩) ?_ ?_
                  rotate_left
                  ·intro w'
                   go_simp
                   with_reducible rfl
                  rotate_left
                  ·simp only [Act.put, List.setIfInBounds_toArray, List.set_cons_zero, List.set_cons_succ, i64_w, i32_w]
                   rfl
                  refine take_ (i := 5) (N := some 74) (v := ?_) (a' := ?_) bX32_6 rfl rfl (take_ofW HT_.out HW_.out (by kernel_rfl)) (fun _ _ _ h => h) (Or.inl ⟨by rfl, ?_⟩) hHeld ?_ ?_
                  rotate_left
                  ·rintro w' ⟨s0, s1, s2, s3, s4, s5⟩
                   go_simp
                   with_reducible rfl
                  rotate_left
                  ·simp only [Act.put, List.setIfInBounds_toArray, List.set_cons_zero, List.set_cons_succ, i64_w, i32_w]
                   rfl
                  refine one_ (i := 6) (N := some 75) bX32_7 rfl rfl (one_of HT_.out (by kernel_rfl)) (by decide) (fun K hK => ?_)
                  refine goes_ Try.func45 (by kernel_rfl) rfl #[.agg #[.int .i64 a0_0, .slice Ao93 x620001_2.length co93, .slice none 0 0]] (by rfl) rfl rfl qG ?_
                  refine (spec_l4Wires.calls a0_0 _ _ x620001_2 _ _ ([] : List Int) t637 _ ?side1 ?side2 ?side3 ?side4 A75.out).mono ?_
                  (case side1 => repeat (first | exact (Kd.R_reads' HO_620001.out).2.2 | (with_reducible refine Kd.C_alloc ?_ _) | (with_reducible refine Kd.C_drewN ?_ _) | (with_reducible refine Kd.C_drew ?_)))
                  (case side2 => exact (Kd.R_reads' HO_620001.out).2.1)
                  (case side3 => exact Kd.C_nil _ _)
                  (case side4 => exact Nat.le_refl _)
                  rintro e w94 ⟨rfl, hb⟩
                  refine ⟨_, rfl, ?_⟩
                  have n0_ := Aside0.mk (Kd.R_below (qR HO_5.out) hb)
                  have n1_ := Aside0.mk (Kd.R_below (qR HO_7.out) hb)
                  have n2_ := Aside0.mk (Kd.R_below (qR HO_620001.out) hb)
                  have n3_ := Aside0.mk (blk_below (g := gb616) (o := .cells #[.int .i64 a0_0, .slice (some ad628) l0_1.length c0_1, .slice A0_2 l0_2.length c0_2] 30 (0, 0)) (qK BK616.out) hb)
                  have n4_ := Aside0.mk (blk_below (g := gb617) (o := .cells #[.int .i64 0, .slice none 0 0, .slice none 0 0] 30 (0, 0)) (qK BK617.out) hb)
                  have n5_ := Aside0.mk (blk_below (g := gb619) (o := .cells #[.int .i64 a0_0, .slice Ao93 x620001_2.length co93, .slice none 0 0] 30 (0, 0)) (qK BK619.out) hb)
                  have n6_ := Aside0.mk (blk_below (g := gb629) (o := .cells #[.int .i64 ((rd_T59 l0_1 x39_2).f0), .int .i64 ((rd_T59 l0_1 x39_2).f1), .int .i64 ((rd_T59 l0_1 x39_2).f2)] 59 (0, 0)) (qK BK629.out) hb)
                  have n7_ := Aside0.mk (below_step (qB) hb)
                  clear HO_5
                  clear HO_7
                  clear HO_620001
                  clear BK616
                  clear BK617
                  clear BK619
                  clear BK629
                  clear HB
                  have HO_5 := n0_
                  have HO_7 := n1_
                  have HO_620001 := n2_
                  have BK616 := n3_
                  have BK617 := n4_
                  have BK619 := n5_
                  have BK629 := n6_
                  have HB := n7_
                  clear n0_ n1_ n2_ n3_ n4_ n5_ n6_ n7_
                  (try clear hb)
                  (try clear hb2)
                  (try clear hk)
                  (try clear hi)
                  have p79 : 0 ≤ ((ji76) : Int) := qD
                  have q79 : ((ji76) : Int) < ((x5_2.length : Int) : Int) := qD
                  obtain ⟨go79, co79, eo79, gb79, gl79, cl79, HG79⟩ := Kd.R_form HO_5.out (by omega)
                  (first | cases eo79 | (injection eo79 with ea_ en_ ec_; (first | subst ea_ | (injection ea_ with ea_; subst ea_)); subst ec_; clear en_))
                  have GB79 := Aside0.mk gb79
                  have GG79 := Aside0.mk HG79
                  clear gb79 gl79 HG79
                  obtain ⟨hx79_0, hf79_0⟩ := Kd.R_celln 0 HO_5.out ((ji76) : Int) p79 q79
                  replace p79 := eq_true p79
                  replace q79 := eq_true q79
                  have HP95 := Kd.R_putn HO_5.out ((ji76) : Int) t637
                  rw [← Ny638.out] at HP95
                  have HQ95 := Aside0.mk HP95
                  clear HP95
                  refine hK.out _ _ ⟨(blk_cell BK616.out 0).trans rfl, (blk_cell BK616.out 1).trans rfl, (blk_cell BK616.out 2).trans rfl, (blk_cell BK619.out 0).trans rfl, (blk_cell BK619.out 1).trans rfl, (blk_cell BK619.out 2).trans rfl⟩ (fun hHeld => ?_)
                  clear hK K
                  refine norm_ (a' := ?_) ?_ ?_
                  rotate_left
                  ·show Act.put _ (some 75) _ = _
                   simp only [Act.put, List.setIfInBounds_toArray, List.set_cons_zero, List.set_cons_succ, i64_w, i32_w]
                   rfl
                  refine pure_ (i := 7) (N := some 76) (v := ?_) (a' := ?_) bX32_8 rfl rfl (any_of HT_.out (by kernel_rfl)) (fun _ _ _ h => h) (Or.inl ⟨by rfl, ?_⟩) ?_ ?_
                  rotate_left
                  ·intro w'
                   go_simp
                   with_reducible rfl
                  rotate_left
                  ·simp only [Act.put, List.setIfInBounds_toArray, List.set_cons_zero, List.set_cons_succ, i64_w, i32_w]
                   rfl
                  refine last_ (i := 8) (N := none) bX32_9 rfl rfl (one_of HT_.out (by kernel_rfl)) (by decide) (fun K hK => ?_)
                  refine skip_ (w1 := ?_) (by rfl) rfl ?_ ?_
                  rotate_left
                  ·go_simp
                   rfl
                  refine hK.out _ _ ?_
                  clear hK K
                  refine done_ (done_of HT_.out (by kernel_rfl)) ?_
                  have n0_ : Aside0 (Kd.R (Kd.int .i64) 3 (w94.setCell ⟨go79, ((ji76) : Int).toNat, none⟩ (.int .i64 t637)) w.heap.size (fun k_ => some k_ ≠ (.slice Ao89 t625.length co89 : Value).ownBlock) (.slice (some ⟨go79, 0, none⟩) x5_2.length co79) y638) := ⟨qR HQ95.out⟩
                  have n1_ : Aside0 (Kd.R (Kd.int .i64) 3 (w94.setCell ⟨go79, ((ji76) : Int).toNat, none⟩ (.int .i64 t637)) w.heap.size (fun k_ => some k_ ≠ (.slice (some ⟨go79, 0, none⟩) x5_2.length co79 : Value).ownBlock) (.slice Ao89 t625.length co89) t625) := ⟨by (with_reducible repeat (first | apply Kd.R_alloc | apply Kd.R_drewN | apply Kd.R_drew)); exact Kd.R_mono (Kd.R_far (p := ⟨go79, ((ji76) : Int).toNat, none⟩) (Kd.R_mono HO_7.out (fun k_ hk => (⟨hk, fun e_ => hk (by rw [e_]; rfl)⟩ : _ ∧ k_ ≠ go79))) (fun _ hk => hk.2) (.int .i64 t637)) (fun _ hk => hk.1)⟩
                  have n2_ : Aside0 (Kd.R k59 59 (w94.setCell ⟨go79, ((ji76) : Int).toNat, none⟩ (.int .i64 t637)) w.heap.size (fun k_ => k_ ≠ gb629) (.slice Ao93 x620001_2.length co93) x620001_2) := ⟨by (with_reducible repeat (first | apply Kd.R_alloc | apply Kd.R_drewN | apply Kd.R_drew)); exact Kd.R_mono (Kd.R_far (p := ⟨go79, ((ji76) : Int).toNat, none⟩) (Kd.R_types HO_620001.out GG79.out (by decide)) (fun _ hk => hk.2) (.int .i64 t637)) (fun _ hk => hk.1.2)⟩
                  have n3_ : Aside0 ((w94.setCell ⟨go79, ((ji76) : Int).toNat, none⟩ (.int .i64 t637)).heap[gb616]? = some (.cells #[.int .i64 a0_0, .slice (some ad628) l0_1.length c0_1, .slice A0_2 l0_2.length c0_2] 30 (0, 0))) := ⟨by (with_reducible repeat (first | refine blk_drewN ?_ _ | refine blk_drew ?_ | refine blk_alloc ?_ _)); refine blk_far ?_ (by have h_ := Kd.R_ne HO_5.out BK616.out (by decide); intro e_; exact h_ (by rw [e_]; rfl)) _; exact qK BK616.out⟩
                  have n4_ : Aside0 ((w94.setCell ⟨go79, ((ji76) : Int).toNat, none⟩ (.int .i64 t637)).heap[gb617]? = some (.cells #[.int .i64 0, .slice none 0 0, .slice none 0 0] 30 (0, 0))) := ⟨by (with_reducible repeat (first | refine blk_drewN ?_ _ | refine blk_drew ?_ | refine blk_alloc ?_ _)); refine blk_far ?_ (by have h_ := Kd.R_ne HO_5.out BK617.out (by decide); intro e_; exact h_ (by rw [e_]; rfl)) _; exact qK BK617.out⟩
                  have n5_ : Aside0 ((w94.setCell ⟨go79, ((ji76) : Int).toNat, none⟩ (.int .i64 t637)).heap[gb619]? = some (.cells #[.int .i64 a0_0, .slice Ao93 x620001_2.length co93, .slice none 0 0] 30 (0, 0))) := ⟨by (with_reducible repeat (first | refine blk_drewN ?_ _ | refine blk_drew ?_ | refine blk_alloc ?_ _)); refine blk_far ?_ (by have h_ := Kd.R_ne HO_5.out BK619.out (by decide); intro e_; exact h_ (by rw [e_]; rfl)) _; exact qK BK619.out⟩
                  have n6_ : Aside0 ((w94.setCell ⟨go79, ((ji76) : Int).toNat, none⟩ (.int .i64 t637)).heap[gb629]? = some (.cells #[.int .i64 ((rd_T59 l0_1 x39_2).f0), .int .i64 ((rd_T59 l0_1 x39_2).f1), .int .i64 ((rd_T59 l0_1 x39_2).f2)] 59 (0, 0))) := ⟨by (with_reducible repeat (first | refine blk_drewN ?_ _ | refine blk_drew ?_ | refine blk_alloc ?_ _)); refine blk_far ?_ (by have h_ := Kd.R_ne HO_5.out BK629.out (by decide); intro e_; exact h_ (by rw [e_]; rfl)) _; exact qK BK629.out⟩
                  have n7_ : Aside0 (Below w.heap.size w (w94.setCell ⟨go79, ((ji76) : Int).toNat, none⟩ (.int .i64 t637))) := ⟨by repeat (first | (with_reducible first | exact HB.out | apply below_alloc | apply pw_below_drewN | apply below_drew1 | refine below_set ?_ GB79.out | refine below_set ?_ GE616.out | refine below_set ?_ GE617.out | refine below_set ?_ GE619.out | refine below_set ?_ GE629.out) | exact HB.out)⟩
                  (try clear HO_5)
                  (try clear HO_7)
                  (try clear HO_620001)
                  (try clear BK616)
                  (try clear BK617)
                  (try clear BK619)
                  (try clear BK629)
                  (try clear HB)
                  generalize (w94.setCell ⟨go79, ((ji76) : Int).toNat, none⟩ (.int .i64 t637)) = w96 at n0_ n1_ n2_ n3_ n4_ n5_ n6_ n7_ ⊢
                  have HO_5 := n0_
                  have HO_7 := n1_
                  have HO_620001 := n2_
                  have BK616 := n3_
                  have BK617 := n4_
                  have BK619 := n5_
                  have BK629 := n6_
                  have HB := n7_
                  clear n0_ n1_ n2_ n3_ n4_ n5_ n6_ n7_
                  have hnb97 := NB619_617.out
                  have hnc97 := NB617_619.out
                  have hcz98_0 : w96.cell? ⟨gb619, 0, none⟩ = some (.int .i64 a0_0) := (blk_cell BK619.out 0).trans rfl
                  have hcz98_1 : w96.cell? ⟨gb619, 1, none⟩ = some (.slice Ao93 x620001_2.length co93) := (blk_cell BK619.out 1).trans rfl
                  have hcz98_2 : w96.cell? ⟨gb619, 2, none⟩ = some (.slice none 0 0) := (blk_cell BK619.out 2).trans rfl
                  have hfz98_0 := blk_frozen BK619.out 0
                  have hfz98_1 := blk_frozen BK619.out 1
                  have hfz98_2 := blk_frozen BK619.out 2
                  have hcz99_0 : w96.cell? ⟨gb629, 0, none⟩ = some (.int .i64 ((rd_T59 l0_1 x39_2).f0)) := (blk_cell BK629.out 0).trans rfl
                  have hcz99_1 : w96.cell? ⟨gb629, 1, none⟩ = some (.int .i64 ((rd_T59 l0_1 x39_2).f1)) := (blk_cell BK629.out 1).trans rfl
                  have hcz99_2 : w96.cell? ⟨gb629, 2, none⟩ = some (.int .i64 ((rd_T59 l0_1 x39_2).f2)) := (blk_cell BK629.out 2).trans rfl
                  have hfz99_0 := blk_frozen BK629.out 0
                  have hfz99_1 := blk_frozen BK629.out 1
                  have hfz99_2 := blk_frozen BK629.out 2
                  try go_wp2_with (first | ((with_reducible refine gate_builtin (b := .append) (xs := #[.tmp 78, .tmp 80]) rfl ?_); at_builtin; refine Kd.R_append k59 (w0 := w) w.heap.size rfl (.tmp 78) (.tmp 80) 28 59 (.agg #[(.int .i64 0), (.int .i64 0), (.int .i64 0)]) 24 rfl Try.underlying28 info59 rfl (by decide) (by omega) (.slice Ao93 x620001_2.length co93) x620001_2 (⟨(rd_T59 l0_1 x39_2).f0, (rd_T59 l0_1 x39_2).f1, (rd_T59 l0_1 x39_2).f2⟩ : S59) [.int .i64 ((rd_T59 l0_1 x39_2).f0), .int .i64 ((rd_T59 l0_1 x39_2).f1), .int .i64 ((rd_T59 l0_1 x39_2).f2)] (fun k_ => k_ ≠ gb629) (fun _ => False) rfl rfl ?aP (fun _ hk => hk.elim) ?aF ?aO ?aB ?aS ?aL ?_; (case aP => exact k59_mkM _ _ _ (⟨(rd_T59 l0_1 x39_2).f0, (rd_T59 l0_1 x39_2).f1, (rd_T59 l0_1 x39_2).f2⟩ : S59)); (case aB => exact (qB)); (case aF => exact (fun k_ hk => Kd.freshB (g := gb629) (o := .cells #[.int .i64 ((rd_T59 l0_1 x39_2).f0), .int .i64 ((rd_T59 l0_1 x39_2).f1), .int .i64 ((rd_T59 l0_1 x39_2).f2)] 59 (0, 0)) (qK BK629.out) k_ hk)); (case aO => exact (qR HO_620001.out)); (case aS => exact (below_size (qB))); (case aL => have := LMc80.out; omega); intro v640 w100 ho hb hg hat; rw [← Ny639.out] at ho; have n0_ := Aside0.mk (Kd.R_over' (qR HO_5.out) (Kd.R_typed (qR HO_620001.out)) (by decide) hg); have n1_ := Aside0.mk (Kd.R_over' (qR HO_7.out) (Kd.R_typed (qR HO_620001.out)) (by decide) hg); have n2_ := Aside0.mk (blk_grown (g := gb616) (o := .cells #[.int .i64 a0_0, .slice (some ad628) l0_1.length c0_1, .slice A0_2 l0_2.length c0_2] 30 (0, 0)) (qK BK616.out) hg (Kd.R_ne HO_620001.out BK616.out (by decide))); have n3_ := Aside0.mk (blk_grown (g := gb617) (o := .cells #[.int .i64 0, .slice none 0 0, .slice none 0 0] 30 (0, 0)) (qK BK617.out) hg (Kd.R_ne HO_620001.out BK617.out (by decide))); have n4_ := Aside0.mk (blk_grown (g := gb619) (o := .cells #[.int .i64 a0_0, .slice Ao93 x620001_2.length co93, .slice none 0 0] 30 (0, 0)) (qK BK619.out) hg (Kd.R_ne HO_620001.out BK619.out (by decide))); have n5_ := Aside0.mk (blk_grown (g := gb629) (o := .cells #[.int .i64 ((rd_T59 l0_1 x39_2).f0), .int .i64 ((rd_T59 l0_1 x39_2).f1), .int .i64 ((rd_T59 l0_1 x39_2).f2)] 59 (0, 0)) (qK BK629.out) hg (Kd.R_away HO_620001.out (fun _ hk => hk))); have n6_ := Aside0.mk (hb); have n7_ := Aside0.mk (ho); clear HO_5; clear HO_7; clear BK616; clear BK617; clear BK619; clear BK629; clear HB; clear HO_620001; have HO_5 := n0_; have HO_7 := n1_; have BK616 := n2_; have BK617 := n3_; have BK619 := n4_; have BK629 := n5_; have HB := n6_; have HO641 := n7_; clear n0_ n1_ n2_ n3_ n4_ n5_ n6_ n7_; clear ho hb hg hat; obtain ⟨Ao101, co101, eo101⟩ := Kd.R_slice HO641.out; subst eo101; have hcz102_0 : w100.cell? ⟨gb619, 0, none⟩ = some (.int .i64 a0_0) := (blk_cell BK619.out 0).trans rfl; have hcz102_1 : w100.cell? ⟨gb619, 1, none⟩ = some (.slice Ao93 x620001_2.length co93) := (blk_cell BK619.out 1).trans rfl; have hcz102_2 : w100.cell? ⟨gb619, 2, none⟩ = some (.slice none 0 0) := (blk_cell BK619.out 2).trans rfl; have hfz102_0 := blk_frozen BK619.out 0; have hfz102_1 := blk_frozen BK619.out 1; have hfz102_2 := blk_frozen BK619.out 2))
                  go_roundg k2
                  case measure => have := HK1.out; have := HK2.out; omega
                  case rel => exact ⟨(y638), (wrap64 (x39_2 + 1)), (y639), (.slice Ao101 y639.length co101), qS, H', ⟨by have := HK1.out; have := HK2.out; omega⟩, ⟨by (with_reducible repeat (first | apply Kd.R_alloc | apply Kd.R_drewN | apply Kd.R_drew)); exact Kd.R_mono (Kd.R_far (p := ⟨gb619, 1, none⟩) (Kd.R_types HO_5.out BK619.out (by decide)) (fun _ hk => hk.2) (.slice Ao101 y639.length co101)) (fun _ hk => hk.1)⟩, ⟨by (with_reducible repeat (first | apply Kd.R_alloc | apply Kd.R_drewN | apply Kd.R_drew)); exact Kd.R_mono (Kd.R_far (p := ⟨gb619, 1, none⟩) (Kd.R_types HO_7.out BK619.out (by decide)) (fun _ hk => hk.2) (.slice Ao101 y639.length co101)) (fun _ hk => hk.1)⟩, ⟨by (with_reducible repeat (first | apply Kd.R_alloc | apply Kd.R_drewN | apply Kd.R_drew)); exact Kd.R_mono (Kd.R_far (p := ⟨gb619, 1, none⟩) (Kd.R_types HO641.out BK619.out (by decide)) (fun _ hk => hk.2) (.slice Ao101 y639.length co101)) (fun _ hk => trivial)⟩, ⟨by (with_reducible repeat (first | refine blk_drewN ?_ _ | refine blk_drew ?_ | refine blk_alloc ?_ _)); refine blk_far ?_ NB616_619.out _; exact qK BK616.out⟩, ⟨by (with_reducible repeat (first | refine blk_drewN ?_ _ | refine blk_drew ?_ | refine blk_alloc ?_ _)); refine blk_far ?_ NB617_619.out _; exact qK BK617.out⟩, ⟨by (with_reducible repeat (first | refine blk_drewN ?_ _ | refine blk_drew ?_ | refine blk_alloc ?_ _)); refine blk_put (cs := #[.int .i64 a0_0, .slice Ao93 x620001_2.length co93, .slice none 0 0]) ?_ 1 _ rfl; exact qK BK619.out⟩, ⟨qB⟩⟩
                 ·rw [if_neg c80] at H
                  exact absurd H (by simp)
                ·rw [if_neg c78] at H
                 exact absurd H (by simp)
               ·rw [if_neg c77] at H
                exact absurd H (by simp)
             ·rw [if_neg c41] at H
              have c41b0 : (((rd_T59 l0_1 x39_2).f0) == 1) = false := beq_eq_false_iff_ne.mpr c41
              have c41b1 : (((rd_T59 l0_1 x39_2).f0) != 1) = true := bne_iff_ne.mpr c41
              by_cases c103 : 0 ≤ ((rd_T59 l0_1 x39_2).f1)
              ·rw [if_pos c103] at H
               have c103b0 : decide (0 ≤ ((rd_T59 l0_1 x39_2).f1)) = true := decide_eq_true c103
               clear c103
               by_cases c104 : ((rd_T59 l0_1 x39_2).f1) < (x5_2.length : Int)
               ·rw [if_pos c104] at H
                have c104b0 : decide (((rd_T59 l0_1 x39_2).f1) < (x5_2.length : Int)) = true := decide_eq_true c104
                clear c104
                by_cases c105 : ((rd_T59 l0_1 x39_2).f0) > 2
                ·rw [if_pos c105] at H
                 have c105b0 : decide (2 < ((rd_T59 l0_1 x39_2).f0)) = true := decide_eq_true c105
                 clear c105
                 by_cases c106 : 0 ≤ ((rd_T59 l0_1 x39_2).f2)
                 ·rw [if_pos c106] at H
                  have c106b0 : decide (0 ≤ ((rd_T59 l0_1 x39_2).f2)) = true := decide_eq_true c106
                  clear c106
                  by_cases c107 : ((rd_T59 l0_1 x39_2).f2) < (x5_2.length : Int)
                  ·rw [if_pos c107] at H
                   have c107b0 : decide (((rd_T59 l0_1 x39_2).f2) < (x5_2.length : Int)) = true := decide_eq_true c107
                   clear c107
                   replace H := Option.bind_eq_some_iff.mp H
                   obtain ⟨t644, A1080, H⟩ := H
                   replace H : (if 0 ≤ (wrap64 (a0_0 + x39_2)) then (if (wrap64 (a0_0 + x39_2)) < (x5_2.length : Int) then (if x620001_2.length < 5864062014805 then (spec_PruneCircuit.l1 k2 (x5_2.set ((wrap64 (a0_0 + x39_2)) : Int).toNat t644) t625 l0_1 (l0_1.length : Int) (wrap64 (x39_2 + 1)) a0_0 l0_1 l0_2 a0_0 (x620001_2 ++ [(⟨(rd_T59 l0_1 x39_2).f0, rd x5_2 ((rd_T59 l0_1 x39_2).f1), rd x5_2 ((rd_T59 l0_1 x39_2).f2)⟩ : S59)])) else (none)) else (none)) else (none)) = some (r1, r2, r3, r4) := H
                   have A108 := Aside0.mk A1080
                   clear A1080
                   obtain ⟨ji109, hji109⟩ : ∃ j_ : Int, (wrap64 (a0_0 + x39_2)) = j_ := ⟨_, rfl⟩
                   replace H : (if 0 ≤ (ji109) then (if (ji109) < (x5_2.length : Int) then (if x620001_2.length < 5864062014805 then (spec_PruneCircuit.l1 k2 (x5_2.set ((ji109) : Int).toNat t644) t625 l0_1 (l0_1.length : Int) (wrap64 (x39_2 + 1)) a0_0 l0_1 l0_2 a0_0 (x620001_2 ++ [(⟨(rd_T59 l0_1 x39_2).f0, rd x5_2 ((rd_T59 l0_1 x39_2).f1), rd x5_2 ((rd_T59 l0_1 x39_2).f2)⟩ : S59)])) else (none)) else (none)) else (none)) = some (r1, r2, r3, r4) := by first | (rw [hji109] at H; exact H) | (simp only [hji109] at H ⊢; exact H)
                   (try rw [hji109] at A39)
                   (try rw [hji109] at A108)
                   have hji109w : (IntKind.i64.wrap (a0_0 + x39_2)) = ji109 := (i64_w _).trans hji109
                   by_cases c110 : 0 ≤ (ji109)
                   ·rw [if_pos c110] at H
                    have c110b0 : decide (0 ≤ (ji109)) = true := decide_eq_true c110
                    clear c110
                    by_cases c111 : (ji109) < (x5_2.length : Int)
                    ·rw [if_pos c111] at H
                     have c111b0 : decide ((ji109) < (x5_2.length : Int)) = true := decide_eq_true c111
                     clear c111
                     obtain ⟨y645, hy645⟩ : ∃ y_ : List Int, y_ = (x5_2.set ((ji109) : Int).toNat t644) := ⟨_, rfl⟩
                     replace H : (if x620001_2.length < 5864062014805 then (spec_PruneCircuit.l1 k2 y645 t625 l0_1 (l0_1.length : Int) (wrap64 (x39_2 + 1)) a0_0 l0_1 l0_2 a0_0 (x620001_2 ++ [(⟨(rd_T59 l0_1 x39_2).f0, rd x5_2 ((rd_T59 l0_1 x39_2).f1), rd x5_2 ((rd_T59 l0_1 x39_2).f2)⟩ : S59)])) else (none)) = some (r1, r2, r3, r4) := qY hy645 H
                     have Ny645 := Aside0.mk hy645
                     clear hy645
                     by_cases c113 : x620001_2.length < 5864062014805
                     ·rw [if_pos c113] at H
                      have LMc113 := Aside0.mk c113
                      clear c113
                      obtain ⟨y646, hy646⟩ : ∃ y_ : List (S59), y_ = (x620001_2 ++ [(⟨(rd_T59 l0_1 x39_2).f0, rd x5_2 ((rd_T59 l0_1 x39_2).f1), rd x5_2 ((rd_T59 l0_1 x39_2).f2)⟩ : S59)]) := ⟨_, rfl⟩
                      replace H : (spec_PruneCircuit.l1 k2 y645 t625 l0_1 (l0_1.length : Int) (wrap64 (x39_2 + 1)) a0_0 l0_1 l0_2 a0_0 y646) = some (r1, r2, r3, r4) := qY hy646 H
                      have Ny646 := Aside0.mk hy646
                      clear hy646
                      have H' := Aside0.mk H
                      clear H
                      have p628 : 0 ≤ (x39_2 : Int) := qD
                      have q628 : x39_2 < (l0_1.length : Int) := qD
                      obtain ⟨ad628, e628, hx628_0, hx628_1, hx628_2⟩ := at_T59 HR0_1.out x39_2 p628 q628
                      cases e628
                      replace hx628_0 := (HB.out.cell (World.block_lt_of_cell? w _ hx628_0)).trans hx628_0
                      replace hx628_1 := (HB.out.cell (World.block_lt_of_cell? w _ hx628_1)).trans hx628_1
                      replace hx628_2 := (HB.out.cell (World.block_lt_of_cell? w _ hx628_2)).trans hx628_2
                      replace p628 := eq_true p628
                      replace q628 := eq_true q628
                      try go_wp2_with (first | ((with_reducible refine gate_dst (N := 9) rfl ?_); refine box_event ?hg (N := 9) ?hd (cs := #[.int .i64 0, .int .i64 0, .int .i64 0]) (t := 59) ?hr ?_; (case hd => rfl); (case hg => rfl); (case hr => first | (go_simp; done) | (go_simp; rfl)); intro gb629 hg w114 hbox hb; have n0_ := Aside0.mk (Kd.R_below (qR HO_5.out) hb); have n1_ := Aside0.mk (Kd.R_below (qR HO_7.out) hb); have n2_ := Aside0.mk (Kd.R_below (Kd.R_elderB (qR HO_620001.out) gb629 (Nat.le_of_eq hg.symm)) hb); have n3_ := Aside0.mk (blk_below (g := gb616) (o := .cells #[.int .i64 a0_0, .slice (some ad628) l0_1.length c0_1, .slice A0_2 l0_2.length c0_2] 30 (0, 0)) (qK BK616.out) hb); have n4_ := Aside0.mk (blk_below (g := gb617) (o := .cells #[.int .i64 0, .slice none 0 0, .slice none 0 0] 30 (0, 0)) (qK BK617.out) hb); have n5_ := Aside0.mk (blk_below (g := gb619) (o := .cells #[.int .i64 a0_0, u620001, .slice none 0 0] 30 (0, 0)) (qK BK619.out) hb); have n6_ := Aside0.mk (below_step (qB) hb); have n7_ := Aside0.mk (hbox); have n8_ := Aside0.mk ((by rw [hg]; exact (below_size (qB)) : w.heap.size ≤ gb629)); have n9_ := Aside0.mk ((by rw [hg]; exact (below_size (qB)) : w.heap.size ≤ gb629)); have n10_ := Aside0.mk ((by rw [hg]; exact Nat.ne_of_lt (blk_lt (g := gb616) (o := .cells #[.int .i64 a0_0, .slice (some ad628) l0_1.length c0_1, .slice A0_2 l0_2.length c0_2] 30 (0, 0)) (qK BK616.out)) : gb616 ≠ gb629)); have n11_ := Aside0.mk ((by rw [hg]; exact Nat.ne_of_gt (blk_lt (g := gb616) (o := .cells #[.int .i64 a0_0, .slice (some ad628) l0_1.length c0_1, .slice A0_2 l0_2.length c0_2] 30 (0, 0)) (qK BK616.out)) : gb629 ≠ gb616)); have n12_ := Aside0.mk ((by rw [hg]; exact Nat.ne_of_lt (blk_lt (g := gb617) (o := .cells #[.int .i64 0, .slice none 0 0, .slice none 0 0] 30 (0, 0)) (qK BK617.out)) : gb617 ≠ gb629)); have n13_ := Aside0.mk ((by rw [hg]; exact Nat.ne_of_gt (blk_lt (g := gb617) (o := .cells #[.int .i64 0, .slice none 0 0, .slice none 0 0] 30 (0, 0)) (qK BK617.out)) : gb629 ≠ gb617)); have n14_ := Aside0.mk ((by rw [hg]; exact Nat.ne_of_lt (blk_lt (g := gb619) (o := .cells #[.int .i64 a0_0, u620001, .slice none 0 0] 30 (0, 0)) (qK BK619.out)) : gb619 ≠ gb629)); have n15_ := Aside0.mk ((by rw [hg]; exact Nat.ne_of_gt (blk_lt (g := gb619) (o := .cells #[.int .i64 a0_0, u620001, .slice none 0 0] 30 (0, 0)) (qK BK619.out)) : gb629 ≠ gb619)); clear HO_5; clear HO_7; clear HO_620001; clear BK616; clear BK617; clear BK619; clear HB; have HO_5 := n0_; have HO_7 := n1_; have HO_620001 := n2_; have BK616 := n3_; have BK617 := n4_; have BK619 := n5_; have HB := n6_; have BK629 := n7_; have GW629 := n8_; have GE629 := n9_; have NB616_629 := n10_; have NB629_616 := n11_; have NB617_629 := n12_; have NB629_617 := n13_; have NB619_629 := n14_; have NB629_619 := n15_; clear n0_ n1_ n2_ n3_ n4_ n5_ n6_ n7_ n8_ n9_ n10_ n11_ n12_ n13_ n14_ n15_; clear hb hbox hg; have hnb115 := NB629_616.out; have hnc115 := NB616_629.out; have hnb116 := NB629_617.out; have hnc116 := NB617_629.out; have hnb117 := NB629_619.out; have hnc117 := NB619_629.out; have hcz118_0 : w114.cell? ⟨gb629, 0, none⟩ = some (.int .i64 0) := (blk_cell BK629.out 0).trans rfl; have hcz118_1 : w114.cell? ⟨gb629, 1, none⟩ = some (.int .i64 0) := (blk_cell BK629.out 1).trans rfl; have hcz118_2 : w114.cell? ⟨gb629, 2, none⟩ = some (.int .i64 0) := (blk_cell BK629.out 2).trans rfl; have hfz118_0 := blk_frozen BK629.out 0; have hfz118_1 := blk_frozen BK629.out 1; have hfz118_2 := blk_frozen BK629.out 2; have hnb119 := NB616_617.out; have hnc119 := NB617_616.out; have hnb120 := NB616_619.out; have hnc120 := NB619_616.out; have hcz121_0 : w114.cell? ⟨gb616, 0, none⟩ = some (.int .i64 a0_0) := (blk_cell BK616.out 0).trans rfl; have hcz121_1 : w114.cell? ⟨gb616, 1, none⟩ = some (.slice (some ad628) l0_1.length c0_1) := (blk_cell BK616.out 1).trans rfl; have hcz121_2 : w114.cell? ⟨gb616, 2, none⟩ = some (.slice A0_2 l0_2.length c0_2) := (blk_cell BK616.out 2).trans rfl; have hfz121_0 := blk_frozen BK616.out 0; have hfz121_1 := blk_frozen BK616.out 1; have hfz121_2 := blk_frozen BK616.out 2; obtain ⟨Ao122, co122, eo122⟩ := Kd.R_slice HO_7.out; subst eo122) | ((with_reducible refine gate_callee (f := 56) rfl ?_); refine goesL_ (some 49) rfl rfl Try.func56 (by kernel_rfl) rfl #[.slice Ao122 t625.length co122, .int .i64 ji109] rfl (by (try simp only [List.map_toArray, List.map_cons, List.map_nil]); first | done | (simp only [hji109]; rfl) | rfl | (simp only [List.length_drop, List.length_take]; rfl)) ?_; (with_reducible refine (spec_l1Has.calls k2 _ _ t625 ji109 true _ ?side1 ?side2 A39.out).mono ?_); (case side1 => refine (Kd.R_reads' (e := 3) (base := w.heap.size) (ok := fun k_ => some k_ ≠ (v622 : Value).ownBlock) (n := t625.length) (c := co122) ?_).2.2; exact (by (with_reducible repeat (first | apply Kd.R_alloc | apply Kd.R_drewN | apply Kd.R_drew)); exact (Kd.R_mono (Kd.R_far (p := ⟨gb629, 2, none⟩) (Kd.R_far (p := ⟨gb629, 1, none⟩) (Kd.R_far (p := ⟨gb629, 0, none⟩) (Kd.R_types HO_7.out BK629.out (by decide)) (fun _ hk => hk.2) (.int .i64 ((rd_T59 l0_1 x39_2).f0))) (fun _ hk => hk.2) (.int .i64 ((rd_T59 l0_1 x39_2).f1))) (fun _ hk => hk.2) (.int .i64 ((rd_T59 l0_1 x39_2).f2))) (fun _ h_ => h_.1)))); (case side2 => exact (Kd.R_reads' HO_7.out).2.1); rintro e w123 ⟨rfl, hb⟩; refine ⟨_, rfl, ?_⟩; have n0_ := Aside0.mk (Kd.R_below (by (with_reducible repeat (first | apply Kd.R_alloc | apply Kd.R_drewN | apply Kd.R_drew)); exact (Kd.R_mono (Kd.R_far (p := ⟨gb629, 2, none⟩) (Kd.R_far (p := ⟨gb629, 1, none⟩) (Kd.R_far (p := ⟨gb629, 0, none⟩) (Kd.R_types HO_5.out BK629.out (by decide)) (fun _ hk => hk.2) (.int .i64 ((rd_T59 l0_1 x39_2).f0))) (fun _ hk => hk.2) (.int .i64 ((rd_T59 l0_1 x39_2).f1))) (fun _ hk => hk.2) (.int .i64 ((rd_T59 l0_1 x39_2).f2))) (fun _ h_ => h_.1))) hb); have n1_ := Aside0.mk (Kd.R_below (by (with_reducible repeat (first | apply Kd.R_alloc | apply Kd.R_drewN | apply Kd.R_drew)); exact (Kd.R_mono (Kd.R_far (p := ⟨gb629, 2, none⟩) (Kd.R_far (p := ⟨gb629, 1, none⟩) (Kd.R_far (p := ⟨gb629, 0, none⟩) (Kd.R_types HO_7.out BK629.out (by decide)) (fun _ hk => hk.2) (.int .i64 ((rd_T59 l0_1 x39_2).f0))) (fun _ hk => hk.2) (.int .i64 ((rd_T59 l0_1 x39_2).f1))) (fun _ hk => hk.2) (.int .i64 ((rd_T59 l0_1 x39_2).f2))) (fun _ h_ => h_.1))) hb); have n2_ := Aside0.mk (Kd.R_below (by (with_reducible repeat (first | apply Kd.R_alloc | apply Kd.R_drewN | apply Kd.R_drew)); exact (Kd.R_mono (Kd.R_far (p := ⟨gb629, 2, none⟩) (Kd.R_far (p := ⟨gb629, 1, none⟩) (Kd.R_far (p := ⟨gb629, 0, none⟩) (Kd.R_mono HO_620001.out (fun k_ hk => (⟨hk, hk.2⟩ : _ ∧ k_ ≠ gb629))) (fun _ hk => hk.2) (.int .i64 ((rd_T59 l0_1 x39_2).f0))) (fun _ hk => hk.2) (.int .i64 ((rd_T59 l0_1 x39_2).f1))) (fun _ hk => hk.2) (.int .i64 ((rd_T59 l0_1 x39_2).f2))) (fun _ h_ => h_.1))) hb); have n3_ := Aside0.mk (blk_below (g := gb616) (o := .cells #[.int .i64 a0_0, .slice (some ad628) l0_1.length c0_1, .slice A0_2 l0_2.length c0_2] 30 (0, 0)) (qF BK616.out) hb); have n4_ := Aside0.mk (blk_below (g := gb617) (o := .cells #[.int .i64 0, .slice none 0 0, .slice none 0 0] 30 (0, 0)) (qF BK617.out) hb); have n5_ := Aside0.mk (blk_below (g := gb619) (o := .cells #[.int .i64 a0_0, u620001, .slice none 0 0] 30 (0, 0)) (qF BK619.out) hb); have n6_ := Aside0.mk (blk_below (g := gb629) (o := .cells #[.int .i64 ((rd_T59 l0_1 x39_2).f0), .int .i64 ((rd_T59 l0_1 x39_2).f1), .int .i64 ((rd_T59 l0_1 x39_2).f2)] 59 (0, 0)) (by (with_reducible repeat (first | refine blk_drewN ?_ _ | refine blk_drew ?_ | refine blk_alloc ?_ _)); refine blk_put (cs := #[.int .i64 ((rd_T59 l0_1 x39_2).f0), .int .i64 ((rd_T59 l0_1 x39_2).f1), .int .i64 0]) ?_ 2 _ rfl; refine blk_put (cs := #[.int .i64 ((rd_T59 l0_1 x39_2).f0), .int .i64 0, .int .i64 0]) ?_ 1 _ rfl; refine blk_put (cs := #[.int .i64 0, .int .i64 0, .int .i64 0]) ?_ 0 _ rfl; exact qK BK629.out) hb); have n7_ := Aside0.mk (below_step (qB) hb); clear HO_5; clear HO_7; clear HO_620001; clear BK616; clear BK617; clear BK619; clear BK629; clear HB; have HO_5 := n0_; have HO_7 := n1_; have HO_620001 := n2_; have BK616 := n3_; have BK617 := n4_; have BK619 := n5_; have BK629 := n6_; have HB := n7_; clear n0_ n1_ n2_ n3_ n4_ n5_ n6_ n7_; (try clear hb); (try clear hb2); (try clear hk); (try clear hi); have hcz124_0 : w123.cell? ⟨gb629, 0, none⟩ = some (.int .i64 ((rd_T59 l0_1 x39_2).f0)) := (blk_cell BK629.out 0).trans rfl; have hcz124_1 : w123.cell? ⟨gb629, 1, none⟩ = some (.int .i64 ((rd_T59 l0_1 x39_2).f1)) := (blk_cell BK629.out 1).trans rfl; have hcz124_2 : w123.cell? ⟨gb629, 2, none⟩ = some (.int .i64 ((rd_T59 l0_1 x39_2).f2)) := (blk_cell BK629.out 2).trans rfl; have hfz124_0 := blk_frozen BK629.out 0; have hfz124_1 := blk_frozen BK629.out 1; have hfz124_2 := blk_frozen BK629.out 2; obtain ⟨Ao125, co125, eo125⟩ := Kd.R_slice HO_5.out; subst eo125; have p642 : 0 ≤ (((rd_T59 l0_1 x39_2).f1) : Int) := qD; have q642 : ((rd_T59 l0_1 x39_2).f1) < (x5_2.length : Int) := qD; obtain ⟨ad642, e642, hx642_0⟩ := Kd.at_int (Kd.R_reads' HO_5.out).2.2 ((rd_T59 l0_1 x39_2).f1) p642 q642; cases e642; replace p642 := eq_true p642; replace q642 := eq_true q642; have p643 : 0 ≤ (((rd_T59 l0_1 x39_2).f2) : Int) := qD; have q643 : ((rd_T59 l0_1 x39_2).f2) < (x5_2.length : Int) := qD; obtain ⟨ad643, e643, hx643_0⟩ := Kd.at_int (Kd.R_reads' HO_5.out).2.2 ((rd_T59 l0_1 x39_2).f2) p643 q643; obtain rfl : ad642 = ad643 := (by injection e643); have hn643_0 : ad642.block ≠ gb629 := Kd.own_blk (Kd.R_ne HO_5.out BK629.out (by decide)); replace hx643_0 := (cell_far (p := ⟨gb629, 1, none⟩) (qA hn643_0) (.int .i64 (rd x5_2 ((rd_T59 l0_1 x39_2).f1)))).trans hx643_0; clear hn643_0; replace p643 := eq_true p643; replace q643 := eq_true q643))
                      have n0_ : Aside0 (Kd.R (Kd.int .i64) 3 ((w123.setCell ⟨gb629, 1, none⟩ (.int .i64 (rd x5_2 ((rd_T59 l0_1 x39_2).f1)))).setCell ⟨gb629, 2, none⟩ (.int .i64 (rd x5_2 ((rd_T59 l0_1 x39_2).f2)))) w.heap.size (fun k_ => some k_ ≠ (.slice Ao122 t625.length co122 : Value).ownBlock) (.slice (some ad642) x5_2.length co125) x5_2) := ⟨by (with_reducible repeat (first | apply Kd.R_alloc | apply Kd.R_drewN | apply Kd.R_drew)); exact Kd.R_mono (Kd.R_far (p := ⟨gb629, 2, none⟩) (Kd.R_far (p := ⟨gb629, 1, none⟩) (Kd.R_types HO_5.out BK629.out (by decide)) (fun _ hk => hk.2) (.int .i64 (rd x5_2 ((rd_T59 l0_1 x39_2).f1)))) (fun _ hk => hk.2) (.int .i64 (rd x5_2 ((rd_T59 l0_1 x39_2).f2)))) (fun _ hk => hk.1)⟩
                      have n1_ : Aside0 (Kd.R (Kd.int .i64) 3 ((w123.setCell ⟨gb629, 1, none⟩ (.int .i64 (rd x5_2 ((rd_T59 l0_1 x39_2).f1)))).setCell ⟨gb629, 2, none⟩ (.int .i64 (rd x5_2 ((rd_T59 l0_1 x39_2).f2)))) w.heap.size (fun k_ => some k_ ≠ (.slice (some ad642) x5_2.length co125 : Value).ownBlock) (.slice Ao122 t625.length co122) t625) := ⟨by (with_reducible repeat (first | apply Kd.R_alloc | apply Kd.R_drewN | apply Kd.R_drew)); exact Kd.R_mono (Kd.R_far (p := ⟨gb629, 2, none⟩) (Kd.R_far (p := ⟨gb629, 1, none⟩) (Kd.R_types HO_7.out BK629.out (by decide)) (fun _ hk => hk.2) (.int .i64 (rd x5_2 ((rd_T59 l0_1 x39_2).f1)))) (fun _ hk => hk.2) (.int .i64 (rd x5_2 ((rd_T59 l0_1 x39_2).f2)))) (fun _ hk => hk.1)⟩
                      have n2_ : Aside0 (Kd.R k59 59 ((w123.setCell ⟨gb629, 1, none⟩ (.int .i64 (rd x5_2 ((rd_T59 l0_1 x39_2).f1)))).setCell ⟨gb629, 2, none⟩ (.int .i64 (rd x5_2 ((rd_T59 l0_1 x39_2).f2)))) w.heap.size (fun k_ => k_ ≠ gb629) u620001 x620001_2) := ⟨by (with_reducible repeat (first | apply Kd.R_alloc | apply Kd.R_drewN | apply Kd.R_drew)); exact Kd.R_mono (Kd.R_far (p := ⟨gb629, 2, none⟩) (Kd.R_far (p := ⟨gb629, 1, none⟩) (Kd.R_mono HO_620001.out (fun k_ hk => (⟨hk, hk.2⟩ : _ ∧ k_ ≠ gb629))) (fun _ hk => hk.2) (.int .i64 (rd x5_2 ((rd_T59 l0_1 x39_2).f1)))) (fun _ hk => hk.2) (.int .i64 (rd x5_2 ((rd_T59 l0_1 x39_2).f2)))) (fun _ hk => hk.1.2)⟩
                      have n3_ : Aside0 (((w123.setCell ⟨gb629, 1, none⟩ (.int .i64 (rd x5_2 ((rd_T59 l0_1 x39_2).f1)))).setCell ⟨gb629, 2, none⟩ (.int .i64 (rd x5_2 ((rd_T59 l0_1 x39_2).f2)))).heap[gb616]? = some (.cells #[.int .i64 a0_0, .slice (some ad628) l0_1.length c0_1, .slice A0_2 l0_2.length c0_2] 30 (0, 0))) := ⟨by (with_reducible repeat (first | refine blk_drewN ?_ _ | refine blk_drew ?_ | refine blk_alloc ?_ _)); refine blk_far ?_ NB616_629.out _; (with_reducible repeat (first | refine blk_drewN ?_ _ | refine blk_drew ?_ | refine blk_alloc ?_ _)); refine blk_far ?_ NB616_629.out _; exact qK BK616.out⟩
                      have n4_ : Aside0 (((w123.setCell ⟨gb629, 1, none⟩ (.int .i64 (rd x5_2 ((rd_T59 l0_1 x39_2).f1)))).setCell ⟨gb629, 2, none⟩ (.int .i64 (rd x5_2 ((rd_T59 l0_1 x39_2).f2)))).heap[gb617]? = some (.cells #[.int .i64 0, .slice none 0 0, .slice none 0 0] 30 (0, 0))) := ⟨by (with_reducible repeat (first | refine blk_drewN ?_ _ | refine blk_drew ?_ | refine blk_alloc ?_ _)); refine blk_far ?_ NB617_629.out _; (with_reducible repeat (first | refine blk_drewN ?_ _ | refine blk_drew ?_ | refine blk_alloc ?_ _)); refine blk_far ?_ NB617_629.out _; exact qK BK617.out⟩
                      have n5_ : Aside0 (((w123.setCell ⟨gb629, 1, none⟩ (.int .i64 (rd x5_2 ((rd_T59 l0_1 x39_2).f1)))).setCell ⟨gb629, 2, none⟩ (.int .i64 (rd x5_2 ((rd_T59 l0_1 x39_2).f2)))).heap[gb619]? = some (.cells #[.int .i64 a0_0, u620001, .slice none 0 0] 30 (0, 0))) := ⟨by (with_reducible repeat (first | refine blk_drewN ?_ _ | refine blk_drew ?_ | refine blk_alloc ?_ _)); refine blk_far ?_ NB619_629.out _; (with_reducible repeat (first | refine blk_drewN ?_ _ | refine blk_drew ?_ | refine blk_alloc ?_ _)); refine blk_far ?_ NB619_629.out _; exact qK BK619.out⟩
                      have n6_ : Aside0 (((w123.setCell ⟨gb629, 1, none⟩ (.int .i64 (rd x5_2 ((rd_T59 l0_1 x39_2).f1)))).setCell ⟨gb629, 2, none⟩ (.int .i64 (rd x5_2 ((rd_T59 l0_1 x39_2).f2)))).heap[gb629]? = some (.cells #[.int .i64 ((rd_T59 l0_1 x39_2).f0), .int .i64 (rd x5_2 ((rd_T59 l0_1 x39_2).f1)), .int .i64 (rd x5_2 ((rd_T59 l0_1 x39_2).f2))] 59 (0, 0))) := ⟨by (with_reducible repeat (first | refine blk_drewN ?_ _ | refine blk_drew ?_ | refine blk_alloc ?_ _)); refine blk_put (cs := #[.int .i64 ((rd_T59 l0_1 x39_2).f0), .int .i64 (rd x5_2 ((rd_T59 l0_1 x39_2).f1)), .int .i64 ((rd_T59 l0_1 x39_2).f2)]) ?_ 2 _ rfl; refine blk_put (cs := #[.int .i64 ((rd_T59 l0_1 x39_2).f0), .int .i64 ((rd_T59 l0_1 x39_2).f1), .int .i64 ((rd_T59 l0_1 x39_2).f2)]) ?_ 1 _ rfl; exact qK BK629.out⟩
                      have n7_ : Aside0 (Below w.heap.size w ((w123.setCell ⟨gb629, 1, none⟩ (.int .i64 (rd x5_2 ((rd_T59 l0_1 x39_2).f1)))).setCell ⟨gb629, 2, none⟩ (.int .i64 (rd x5_2 ((rd_T59 l0_1 x39_2).f2))))) := ⟨qB⟩
                      (try clear HO_5)
                      (try clear HO_7)
                      (try clear HO_620001)
                      (try clear BK616)
                      (try clear BK617)
                      (try clear BK619)
                      (try clear BK629)
                      (try clear HB)
                      generalize ((w123.setCell ⟨gb629, 1, none⟩ (.int .i64 (rd x5_2 ((rd_T59 l0_1 x39_2).f1)))).setCell ⟨gb629, 2, none⟩ (.int .i64 (rd x5_2 ((rd_T59 l0_1 x39_2).f2)))) = w126 at n0_ n1_ n2_ n3_ n4_ n5_ n6_ n7_ ⊢
                      have HO_5 := n0_
                      have HO_7 := n1_
                      have HO_620001 := n2_
                      have BK616 := n3_
                      have BK617 := n4_
                      have BK619 := n5_
                      have BK629 := n6_
                      have HB := n7_
                      clear n0_ n1_ n2_ n3_ n4_ n5_ n6_ n7_
                      have n0_ := Aside0.mk (Kd.R_drew HO_5.out)
                      have n1_ := Aside0.mk (Kd.R_drew HO_7.out)
                      have n2_ := Aside0.mk (Kd.R_drew HO_620001.out)
                      have n3_ := Aside0.mk (blk_drew BK616.out)
                      have n4_ := Aside0.mk (blk_drew BK617.out)
                      have n5_ := Aside0.mk (blk_drew BK619.out)
                      have n6_ := Aside0.mk (blk_drew BK629.out)
                      have n7_ := Aside0.mk (below_drew1 HB.out)
                      clear HO_5
                      clear HO_7
                      clear HO_620001
                      clear BK616
                      clear BK617
                      clear BK619
                      clear BK629
                      clear HB
                      have HO_5 := n0_
                      have HO_7 := n1_
                      have HO_620001 := n2_
                      have BK616 := n3_
                      have BK617 := n4_
                      have BK619 := n5_
                      have BK629 := n6_
                      have HB := n7_
                      clear n0_ n1_ n2_ n3_ n4_ n5_ n6_ n7_
                      obtain ⟨Ao128, co128, eo128⟩ := Kd.R_slice HO_620001.out
                      (first | subst eo128 | (injection eo128 with f1_ f2_ f3_; have f4_ := f1_.symm; have f5_ := f3_.symm; clear f1_ f2_ f3_; subst f4_; subst f5_))
                      refine start_ (n := 9) (S := fun w' => w'.cell? ⟨gb616, 0, none⟩ = some (.int .i64 a0_0) ∧ w'.cell? ⟨gb616, 1, none⟩ = some (.slice (some ad628) l0_1.length c0_1) ∧ w'.cell? ⟨gb616, 2, none⟩ = some (.slice A0_2 l0_2.length c0_2) ∧ w'.cell? ⟨gb619, 0, none⟩ = some (.int .i64 a0_0) ∧ w'.cell? ⟨gb619, 1, none⟩ = some (.slice Ao128 x620001_2.length co128) ∧ w'.cell? ⟨gb619, 2, none⟩ = some (.slice none 0 0)) (ds := [8]) bX32_0 (by kernel_rfl) rfl rfl ⟨(blk_cell BK616.out 0).trans rfl, (blk_cell BK616.out 1).trans rfl, (blk_cell BK616.out 2).trans rfl, (blk_cell BK619.out 0).trans rfl, (blk_cell BK619.out 1).trans rfl, (blk_cell BK619.out 2).trans rfl⟩ (fun hHeld => ?_); refine with_tabW spec_PruneCircuit.tab18 spec_PruneCircuit.bits18 (fun HT_ HW_ => ?_)
                      generalize w126.drew = w127 at HO_5 HO_7 HO_620001 BK616 BK617 BK619 BK629 HB hHeld ⊢
                      refine pure_ (i := 0) (N := some 69) (v := ?_) (a' := ?_) bX32_1 rfl rfl (any_of HT_.out (by kernel_rfl)) (fun _ _ _ h => h) (Or.inl ⟨by rfl, ?_⟩) ?_ ?_
                      rotate_left
                      ·intro w'
                       go_simp
                       with_reducible rfl
                      rotate_left
                      ·simp only [Act.put, List.setIfInBounds_toArray, List.set_cons_zero, List.set_cons_succ, i64_w, i32_w]
                       rfl
                      refine pure_ (i := 1) (N := some 70) (v := ?_) (a' := ?_) bX32_2 rfl rfl (any_of HT_.out (by kernel_rfl)) (fun _ _ _ h => h) (Or.inl ⟨by rfl, ?_⟩) ?_ ?_
                      rotate_left
                      ·intro w'
                       go_simp
                       with_reducible rfl
                      rotate_left
                      ·simp only [Act.put, List.setIfInBounds_toArray, List.set_cons_zero, List.set_cons_succ, i64_w, i32_w]
                       rfl
                      refine pure_ (i := 3) (N := some 72) (v := ?_) (a' := ?_) bX32_3 rfl rfl (any_of HT_.out (by kernel_rfl)) (fun _ _ _ h => h) (Or.inl ⟨by rfl, ?_⟩) ?_ ?_
                      rotate_left
                      ·intro w'
                       go_simp
                       with_reducible rfl
                      rotate_left
                      ·simp only [Act.put, List.setIfInBounds_toArray, List.set_cons_zero, List.set_cons_succ, i64_w, i32_w]
                       rfl
                      refine take_ (i := 2) (N := some 71) (v := ?_) (a' := ?_) bX32_4 rfl rfl (take_ofW HT_.out HW_.out (by kernel_rfl)) (fun _ _ _ h => h) (Or.inl ⟨by rfl, ?_⟩) hHeld ?_ ?_
                      rotate_left
                      ·rintro w' ⟨s0, s1, s2, s3, s4, s5⟩
                       go_simp
                       with_reducible rfl
                      rotate_left
                      ·simp only [Act.put, List.setIfInBounds_toArray, List.set_cons_zero, List.set_cons_succ, i64_w, i32_w]
                       rfl
                      refine pure_ (i := 4) (N := some 73) (v := ?_) (a' := ?_) bX32_5 rfl rfl (any_of HT_.out (by kernel_rfl)) (fun _ _ _ h => h) (Or.inl ⟨by rfl, ?_⟩) ?_ ?_
                      rotate_left
                      ·intro w'
                       go_simp
                       with_reducible rfl
                      rotate_left
                      ·simp only [Act.put, List.setIfInBounds_toArray, List.set_cons_zero, List.set_cons_succ, i64_w, i32_w]
                       rfl
                      refine take_ (i := 5) (N := some 74) (v := ?_) (a' := ?_) bX32_6 rfl rfl (take_ofW HT_.out HW_.out (by kernel_rfl)) (fun _ _ _ h => h) (Or.inl ⟨by rfl, ?_⟩) hHeld ?_ ?_
                      rotate_left
                      ·rintro w' ⟨s0, s1, s2, s3, s4, s5⟩
                       go_simp
                       with_reducible rfl
                      rotate_left
                      ·simp only [Act.put, List.setIfInBounds_toArray, List.set_cons_zero, List.set_cons_succ, i64_w, i32_w]
                       rfl
                      refine one_ (i := 6) (N := some 75) bX32_7 rfl rfl (one_of HT_.out (by kernel_rfl)) (by decide) (fun K hK => ?_)
                      refine goes_ Try.func45 (by kernel_rfl) rfl #[.agg #[.int .i64 a0_0, .slice Ao128 x620001_2.length co128, .slice none 0 0]] (by rfl) rfl rfl qG ?_
                      refine (spec_l4Wires.calls a0_0 _ _ x620001_2 _ _ ([] : List Int) t644 _ ?side1 ?side2 ?side3 ?side4 A108.out).mono ?_
                      (case side1 => repeat (first | exact (Kd.R_reads' HO_620001.out).2.2 | (with_reducible refine Kd.C_alloc ?_ _) | (with_reducible refine Kd.C_drewN ?_ _) | (with_reducible refine Kd.C_drew ?_)))
                      (case side2 => exact (Kd.R_reads' HO_620001.out).2.1)
                      (case side3 => exact Kd.C_nil _ _)
                      (case side4 => exact Nat.le_refl _)
                      rintro e w129 ⟨rfl, hb⟩
                      refine ⟨_, rfl, ?_⟩
                      have n0_ := Aside0.mk (Kd.R_below (qR HO_5.out) hb)
                      have n1_ := Aside0.mk (Kd.R_below (qR HO_7.out) hb)
                      have n2_ := Aside0.mk (Kd.R_below (qR HO_620001.out) hb)
                      have n3_ := Aside0.mk (blk_below (g := gb616) (o := .cells #[.int .i64 a0_0, .slice (some ad628) l0_1.length c0_1, .slice A0_2 l0_2.length c0_2] 30 (0, 0)) (qK BK616.out) hb)
                      have n4_ := Aside0.mk (blk_below (g := gb617) (o := .cells #[.int .i64 0, .slice none 0 0, .slice none 0 0] 30 (0, 0)) (qK BK617.out) hb)
                      have n5_ := Aside0.mk (blk_below (g := gb619) (o := .cells #[.int .i64 a0_0, .slice Ao128 x620001_2.length co128, .slice none 0 0] 30 (0, 0)) (qK BK619.out) hb)
                      have n6_ := Aside0.mk (blk_below (g := gb629) (o := .cells #[.int .i64 ((rd_T59 l0_1 x39_2).f0), .int .i64 (rd x5_2 ((rd_T59 l0_1 x39_2).f1)), .int .i64 (rd x5_2 ((rd_T59 l0_1 x39_2).f2))] 59 (0, 0)) (qK BK629.out) hb)
                      have n7_ := Aside0.mk (below_step (qB) hb)
                      clear HO_5
                      clear HO_7
                      clear HO_620001
                      clear BK616
                      clear BK617
                      clear BK619
                      clear BK629
                      clear HB
                      have HO_5 := n0_
                      have HO_7 := n1_
                      have HO_620001 := n2_
                      have BK616 := n3_
                      have BK617 := n4_
                      have BK619 := n5_
                      have BK629 := n6_
                      have HB := n7_
                      clear n0_ n1_ n2_ n3_ n4_ n5_ n6_ n7_
                      (try clear hb)
                      (try clear hb2)
                      (try clear hk)
                      (try clear hi)
                      have p112 : 0 ≤ ((ji109) : Int) := qD
                      have q112 : ((ji109) : Int) < ((x5_2.length : Int) : Int) := qD
                      obtain ⟨go112, co112, eo112, gb112, gl112, cl112, HG112⟩ := Kd.R_form HO_5.out (by omega)
                      (first | cases eo112 | (injection eo112 with ea_ en_ ec_; (first | subst ea_ | (injection ea_ with ea_; subst ea_)); subst ec_; clear en_))
                      have GB112 := Aside0.mk gb112
                      have GG112 := Aside0.mk HG112
                      clear gb112 gl112 HG112
                      (first | simp only [add_plain] at hx642_0 | skip)
                      (first | simp only [add_plain] at hx643_0 | skip)
                      obtain ⟨hx112_0, hf112_0⟩ := Kd.R_celln 0 HO_5.out ((ji109) : Int) p112 q112
                      replace p112 := eq_true p112
                      replace q112 := eq_true q112
                      have HP130 := Kd.R_putn HO_5.out ((ji109) : Int) t644
                      rw [← Ny645.out] at HP130
                      have HQ130 := Aside0.mk HP130
                      clear HP130
                      refine hK.out _ _ ⟨(blk_cell BK616.out 0).trans rfl, (blk_cell BK616.out 1).trans rfl, (blk_cell BK616.out 2).trans rfl, (blk_cell BK619.out 0).trans rfl, (blk_cell BK619.out 1).trans rfl, (blk_cell BK619.out 2).trans rfl⟩ (fun hHeld => ?_)
                      clear hK K
                      refine norm_ (a' := ?_) ?_ ?_
                      rotate_left
                      ·show Act.put _ (some 75) _ = _
                       simp only [Act.put, List.setIfInBounds_toArray, List.set_cons_zero, List.set_cons_succ, i64_w, i32_w]
                       rfl
                      refine pure_ (i := 7) (N := some 76) (v := ?_) (a' := ?_) bX32_8 rfl rfl (any_of HT_.out (by kernel_rfl)) (fun _ _ _ h => h) (Or.inl ⟨by rfl, ?_⟩) ?_ ?_
                      rotate_left
                      ·intro w'
                       go_simp
                       with_reducible rfl
                      rotate_left
                      ·simp only [Act.put, List.setIfInBounds_toArray, List.set_cons_zero, List.set_cons_succ, i64_w, i32_w]
                       rfl
                      refine last_ (i := 8) (N := none) bX32_9 rfl rfl (one_of HT_.out (by kernel_rfl)) (by decide) (fun K hK => ?_)
                      refine skip_ (w1 := ?_) (by rfl) rfl ?_ ?_
                      rotate_left
                      ·go_simp
                       rfl
                      refine hK.out _ _ ?_
                      clear hK K
                      refine done_ (done_of HT_.out (by kernel_rfl)) ?_
                      have n0_ : Aside0 (Kd.R (Kd.int .i64) 3 (w129.setCell ⟨go112, ((ji109) : Int).toNat, none⟩ (.int .i64 t644)) w.heap.size (fun k_ => some k_ ≠ (.slice Ao122 t625.length co122 : Value).ownBlock) (.slice (some ⟨go112, 0, none⟩) x5_2.length co125) y645) := ⟨qR HQ130.out⟩
                      have n1_ : Aside0 (Kd.R (Kd.int .i64) 3 (w129.setCell ⟨go112, ((ji109) : Int).toNat, none⟩ (.int .i64 t644)) w.heap.size (fun k_ => some k_ ≠ (.slice (some ⟨go112, 0, none⟩) x5_2.length co125 : Value).ownBlock) (.slice Ao122 t625.length co122) t625) := ⟨by (with_reducible repeat (first | apply Kd.R_alloc | apply Kd.R_drewN | apply Kd.R_drew)); exact Kd.R_mono (Kd.R_far (p := ⟨go112, ((ji109) : Int).toNat, none⟩) (Kd.R_mono HO_7.out (fun k_ hk => (⟨hk, fun e_ => hk (by rw [e_]; rfl)⟩ : _ ∧ k_ ≠ go112))) (fun _ hk => hk.2) (.int .i64 t644)) (fun _ hk => hk.1)⟩
                      have n2_ : Aside0 (Kd.R k59 59 (w129.setCell ⟨go112, ((ji109) : Int).toNat, none⟩ (.int .i64 t644)) w.heap.size (fun k_ => k_ ≠ gb629) (.slice Ao128 x620001_2.length co128) x620001_2) := ⟨by (with_reducible repeat (first | apply Kd.R_alloc | apply Kd.R_drewN | apply Kd.R_drew)); exact Kd.R_mono (Kd.R_far (p := ⟨go112, ((ji109) : Int).toNat, none⟩) (Kd.R_types HO_620001.out GG112.out (by decide)) (fun _ hk => hk.2) (.int .i64 t644)) (fun _ hk => hk.1)⟩
                      have n3_ : Aside0 ((w129.setCell ⟨go112, ((ji109) : Int).toNat, none⟩ (.int .i64 t644)).heap[gb616]? = some (.cells #[.int .i64 a0_0, .slice (some ad628) l0_1.length c0_1, .slice A0_2 l0_2.length c0_2] 30 (0, 0))) := ⟨by (with_reducible repeat (first | refine blk_drewN ?_ _ | refine blk_drew ?_ | refine blk_alloc ?_ _)); refine blk_far ?_ (by have h_ := Kd.R_ne HO_5.out BK616.out (by decide); intro e_; exact h_ (by rw [e_]; rfl)) _; exact qK BK616.out⟩
                      have n4_ : Aside0 ((w129.setCell ⟨go112, ((ji109) : Int).toNat, none⟩ (.int .i64 t644)).heap[gb617]? = some (.cells #[.int .i64 0, .slice none 0 0, .slice none 0 0] 30 (0, 0))) := ⟨by (with_reducible repeat (first | refine blk_drewN ?_ _ | refine blk_drew ?_ | refine blk_alloc ?_ _)); refine blk_far ?_ (by have h_ := Kd.R_ne HO_5.out BK617.out (by decide); intro e_; exact h_ (by rw [e_]; rfl)) _; exact qK BK617.out⟩
                      have n5_ : Aside0 ((w129.setCell ⟨go112, ((ji109) : Int).toNat, none⟩ (.int .i64 t644)).heap[gb619]? = some (.cells #[.int .i64 a0_0, .slice Ao128 x620001_2.length co128, .slice none 0 0] 30 (0, 0))) := ⟨by (with_reducible repeat (first | refine blk_drewN ?_ _ | refine blk_drew ?_ | refine blk_alloc ?_ _)); refine blk_far ?_ (by have h_ := Kd.R_ne HO_5.out BK619.out (by decide); intro e_; exact h_ (by rw [e_]; rfl)) _; exact qK BK619.out⟩
                      have n6_ : Aside0 ((w129.setCell ⟨go112, ((ji109) : Int).toNat, none⟩ (.int .i64 t644)).heap[gb629]? = some (.cells #[.int .i64 ((rd_T59 l0_1 x39_2).f0), .int .i64 (rd x5_2 ((rd_T59 l0_1 x39_2).f1)), .int .i64 (rd x5_2 ((rd_T59 l0_1 x39_2).f2))] 59 (0, 0))) := ⟨by (with_reducible repeat (first | refine blk_drewN ?_ _ | refine blk_drew ?_ | refine blk_alloc ?_ _)); refine blk_far ?_ (by have h_ := Kd.R_ne HO_5.out BK629.out (by decide); intro e_; exact h_ (by rw [e_]; rfl)) _; exact qK BK629.out⟩
                      have n7_ : Aside0 (Below w.heap.size w (w129.setCell ⟨go112, ((ji109) : Int).toNat, none⟩ (.int .i64 t644))) := ⟨by repeat (first | (with_reducible first | exact HB.out | apply below_alloc | apply pw_below_drewN | apply below_drew1 | refine below_set ?_ GB112.out | refine below_set ?_ GE616.out | refine below_set ?_ GE617.out | refine below_set ?_ GE619.out | refine below_set ?_ GE629.out) | exact HB.out)⟩
                      (try clear HO_5)
                      (try clear HO_7)
                      (try clear HO_620001)
                      (try clear BK616)
                      (try clear BK617)
                      (try clear BK619)
                      (try clear BK629)
                      (try clear HB)
                      generalize (w129.setCell ⟨go112, ((ji109) : Int).toNat, none⟩ (.int .i64 t644)) = w131 at n0_ n1_ n2_ n3_ n4_ n5_ n6_ n7_ ⊢
                      have HO_5 := n0_
                      have HO_7 := n1_
                      have HO_620001 := n2_
                      have BK616 := n3_
                      have BK617 := n4_
                      have BK619 := n5_
                      have BK629 := n6_
                      have HB := n7_
                      clear n0_ n1_ n2_ n3_ n4_ n5_ n6_ n7_
                      have hnb132 := NB619_617.out
                      have hnc132 := NB617_619.out
                      have hcz133_0 : w131.cell? ⟨gb619, 0, none⟩ = some (.int .i64 a0_0) := (blk_cell BK619.out 0).trans rfl
                      have hcz133_1 : w131.cell? ⟨gb619, 1, none⟩ = some (.slice Ao128 x620001_2.length co128) := (blk_cell BK619.out 1).trans rfl
                      have hcz133_2 : w131.cell? ⟨gb619, 2, none⟩ = some (.slice none 0 0) := (blk_cell BK619.out 2).trans rfl
                      have hfz133_0 := blk_frozen BK619.out 0
                      have hfz133_1 := blk_frozen BK619.out 1
                      have hfz133_2 := blk_frozen BK619.out 2
                      have hcz134_0 : w131.cell? ⟨gb629, 0, none⟩ = some (.int .i64 ((rd_T59 l0_1 x39_2).f0)) := (blk_cell BK629.out 0).trans rfl
                      have hcz134_1 : w131.cell? ⟨gb629, 1, none⟩ = some (.int .i64 (rd x5_2 ((rd_T59 l0_1 x39_2).f1))) := (blk_cell BK629.out 1).trans rfl
                      have hcz134_2 : w131.cell? ⟨gb629, 2, none⟩ = some (.int .i64 (rd x5_2 ((rd_T59 l0_1 x39_2).f2))) := (blk_cell BK629.out 2).trans rfl
                      have hfz134_0 := blk_frozen BK629.out 0
                      have hfz134_1 := blk_frozen BK629.out 1
                      have hfz134_2 := blk_frozen BK629.out 2
                      try go_wp2_with (first | ((with_reducible refine gate_builtin (b := .append) (xs := #[.tmp 78, .tmp 80]) rfl ?_); at_builtin; refine Kd.R_append k59 (w0 := w) w.heap.size rfl (.tmp 78) (.tmp 80) 28 59 (.agg #[(.int .i64 0), (.int .i64 0), (.int .i64 0)]) 24 rfl Try.underlying28 info59 rfl (by decide) (by omega) (.slice Ao128 x620001_2.length co128) x620001_2 (⟨(rd_T59 l0_1 x39_2).f0, rd x5_2 ((rd_T59 l0_1 x39_2).f1), rd x5_2 ((rd_T59 l0_1 x39_2).f2)⟩ : S59) [.int .i64 ((rd_T59 l0_1 x39_2).f0), .int .i64 (rd x5_2 ((rd_T59 l0_1 x39_2).f1)), .int .i64 (rd x5_2 ((rd_T59 l0_1 x39_2).f2))] (fun k_ => k_ ≠ gb629) (fun _ => False) rfl rfl ?aP (fun _ hk => hk.elim) ?aF ?aO ?aB ?aS ?aL ?_; (case aP => exact k59_mkM _ _ _ (⟨(rd_T59 l0_1 x39_2).f0, rd x5_2 ((rd_T59 l0_1 x39_2).f1), rd x5_2 ((rd_T59 l0_1 x39_2).f2)⟩ : S59)); (case aB => exact (qB)); (case aF => exact (fun k_ hk => Kd.freshB (g := gb629) (o := .cells #[.int .i64 ((rd_T59 l0_1 x39_2).f0), .int .i64 (rd x5_2 ((rd_T59 l0_1 x39_2).f1)), .int .i64 (rd x5_2 ((rd_T59 l0_1 x39_2).f2))] 59 (0, 0)) (qK BK629.out) k_ hk)); (case aO => exact (qR HO_620001.out)); (case aS => exact (below_size (qB))); (case aL => have := LMc113.out; omega); intro v647 w135 ho hb hg hat; rw [← Ny646.out] at ho; have n0_ := Aside0.mk (Kd.R_over' (qR HO_5.out) (Kd.R_typed (qR HO_620001.out)) (by decide) hg); have n1_ := Aside0.mk (Kd.R_over' (qR HO_7.out) (Kd.R_typed (qR HO_620001.out)) (by decide) hg); have n2_ := Aside0.mk (blk_grown (g := gb616) (o := .cells #[.int .i64 a0_0, .slice (some ad628) l0_1.length c0_1, .slice A0_2 l0_2.length c0_2] 30 (0, 0)) (qK BK616.out) hg (Kd.R_ne HO_620001.out BK616.out (by decide))); have n3_ := Aside0.mk (blk_grown (g := gb617) (o := .cells #[.int .i64 0, .slice none 0 0, .slice none 0 0] 30 (0, 0)) (qK BK617.out) hg (Kd.R_ne HO_620001.out BK617.out (by decide))); have n4_ := Aside0.mk (blk_grown (g := gb619) (o := .cells #[.int .i64 a0_0, .slice Ao128 x620001_2.length co128, .slice none 0 0] 30 (0, 0)) (qK BK619.out) hg (Kd.R_ne HO_620001.out BK619.out (by decide))); have n5_ := Aside0.mk (blk_grown (g := gb629) (o := .cells #[.int .i64 ((rd_T59 l0_1 x39_2).f0), .int .i64 (rd x5_2 ((rd_T59 l0_1 x39_2).f1)), .int .i64 (rd x5_2 ((rd_T59 l0_1 x39_2).f2))] 59 (0, 0)) (qK BK629.out) hg (Kd.R_away HO_620001.out (fun _ hk => hk))); have n6_ := Aside0.mk (hb); have n7_ := Aside0.mk (ho); clear HO_5; clear HO_7; clear BK616; clear BK617; clear BK619; clear BK629; clear HB; clear HO_620001; have HO_5 := n0_; have HO_7 := n1_; have BK616 := n2_; have BK617 := n3_; have BK619 := n4_; have BK629 := n5_; have HB := n6_; have HO648 := n7_; clear n0_ n1_ n2_ n3_ n4_ n5_ n6_ n7_; clear ho hb hg hat; obtain ⟨Ao136, co136, eo136⟩ := Kd.R_slice HO648.out; subst eo136; have hcz137_0 : w135.cell? ⟨gb619, 0, none⟩ = some (.int .i64 a0_0) := (blk_cell BK619.out 0).trans rfl; have hcz137_1 : w135.cell? ⟨gb619, 1, none⟩ = some (.slice Ao128 x620001_2.length co128) := (blk_cell BK619.out 1).trans rfl; have hcz137_2 : w135.cell? ⟨gb619, 2, none⟩ = some (.slice none 0 0) := (blk_cell BK619.out 2).trans rfl; have hfz137_0 := blk_frozen BK619.out 0; have hfz137_1 := blk_frozen BK619.out 1; have hfz137_2 := blk_frozen BK619.out 2))
                      go_roundg k2
                      case measure => have := HK1.out; have := HK2.out; omega
                      case rel => exact ⟨(y645), (wrap64 (x39_2 + 1)), (y646), (.slice Ao136 y646.length co136), qS, H', ⟨by have := HK1.out; have := HK2.out; omega⟩, ⟨by (with_reducible repeat (first | apply Kd.R_alloc | apply Kd.R_drewN | apply Kd.R_drew)); exact Kd.R_mono (Kd.R_far (p := ⟨gb619, 1, none⟩) (Kd.R_types HO_5.out BK619.out (by decide)) (fun _ hk => hk.2) (.slice Ao136 y646.length co136)) (fun _ hk => hk.1)⟩, ⟨by (with_reducible repeat (first | apply Kd.R_alloc | apply Kd.R_drewN | apply Kd.R_drew)); exact Kd.R_mono (Kd.R_far (p := ⟨gb619, 1, none⟩) (Kd.R_types HO_7.out BK619.out (by decide)) (fun _ hk => hk.2) (.slice Ao136 y646.length co136)) (fun _ hk => hk.1)⟩, ⟨by (with_reducible repeat (first | apply Kd.R_alloc | apply Kd.R_drewN | apply Kd.R_drew)); exact Kd.R_mono (Kd.R_far (p := ⟨gb619, 1, none⟩) (Kd.R_types HO648.out BK619.out (by decide)) (fun _ hk => hk.2) (.slice Ao136 y646.length co136)) (fun _ hk => trivial)⟩, ⟨by (with_reducible repeat (first | refine blk_drewN ?_ _ | refine blk_drew ?_ | refine blk_alloc ?_ _)); refine blk_far ?_ NB616_619.out _; exact qK BK616.out⟩, ⟨by (with_reducible repeat (first | refine blk_drewN ?_ _ | refine blk_drew ?_ | refine blk_alloc ?_ _)); refine blk_far ?_ NB617_619.out _; exact qK BK617.out⟩, ⟨by (with_reducible repeat (first | refine blk_drewN ?_ _ | refine blk_drew ?_ | refine blk_alloc ?_ _)); refine blk_put (cs := #[.int .i64 a0_0, .slice Ao128 x620001_2.length co128, .slice none 0 0]) ?_ 1 _ rfl; exact qK BK619.out⟩, ⟨qB⟩⟩
                     ·rw [if_neg c113] at H
                      exact absurd H (by simp)
                    ·rw [if_neg c111] at H
                     exact absurd H (by simp)
                   ·rw [if_neg c110] at H
                    exact absurd H (by simp)
                  ·rw [if_neg c107] at H
                   exact absurd H (by simp)
                 ·rw [if_neg c106] at H
                  exact absurd H (by simp)
                ·rw [if_neg c105] at H
                 have c105b0 : decide (2 < ((rd_T59 l0_1 x39_2).f0)) = false := decide_eq_false c105
                 clear c105
                 replace H := Option.bind_eq_some_iff.mp H
                 obtain ⟨t649, A1380, H⟩ := H
                 replace H : (if 0 ≤ (wrap64 (a0_0 + x39_2)) then (if (wrap64 (a0_0 + x39_2)) < (x5_2.length : Int) then (if x620001_2.length < 5864062014805 then (spec_PruneCircuit.l1 k2 (x5_2.set ((wrap64 (a0_0 + x39_2)) : Int).toNat t649) t625 l0_1 (l0_1.length : Int) (wrap64 (x39_2 + 1)) a0_0 l0_1 l0_2 a0_0 (x620001_2 ++ [(⟨(rd_T59 l0_1 x39_2).f0, rd x5_2 ((rd_T59 l0_1 x39_2).f1), (rd_T59 l0_1 x39_2).f2⟩ : S59)])) else (none)) else (none)) else (none)) = some (r1, r2, r3, r4) := H
                 have A138 := Aside0.mk A1380
                 clear A1380
                 obtain ⟨ji139, hji139⟩ : ∃ j_ : Int, (wrap64 (a0_0 + x39_2)) = j_ := ⟨_, rfl⟩
                 replace H : (if 0 ≤ (ji139) then (if (ji139) < (x5_2.length : Int) then (if x620001_2.length < 5864062014805 then (spec_PruneCircuit.l1 k2 (x5_2.set ((ji139) : Int).toNat t649) t625 l0_1 (l0_1.length : Int) (wrap64 (x39_2 + 1)) a0_0 l0_1 l0_2 a0_0 (x620001_2 ++ [(⟨(rd_T59 l0_1 x39_2).f0, rd x5_2 ((rd_T59 l0_1 x39_2).f1), (rd_T59 l0_1 x39_2).f2⟩ : S59)])) else (none)) else (none)) else (none)) = some (r1, r2, r3, r4) := by first | (rw [hji139] at H; exact H) | (simp only [hji139] at H ⊢; exact H)
                 (try rw [hji139] at A39)
                 (try rw [hji139] at A138)
                 have hji139w : (IntKind.i64.wrap (a0_0 + x39_2)) = ji139 := (i64_w _).trans hji139
                 by_cases c140 : 0 ≤ (ji139)
                 ·rw [if_pos c140] at H
                  have c140b0 : decide (0 ≤ (ji139)) = true := decide_eq_true c140
                  clear c140
                  by_cases c141 : (ji139) < (x5_2.length : Int)
                  ·rw [if_pos c141] at H
                   have c141b0 : decide ((ji139) < (x5_2.length : Int)) = true := decide_eq_true c141
                   clear c141
                   obtain ⟨y650, hy650⟩ : ∃ y_ : List Int, y_ = (x5_2.set ((ji139) : Int).toNat t649) := ⟨_, rfl⟩
                   replace H : (if x620001_2.length < 5864062014805 then (spec_PruneCircuit.l1 k2 y650 t625 l0_1 (l0_1.length : Int) (wrap64 (x39_2 + 1)) a0_0 l0_1 l0_2 a0_0 (x620001_2 ++ [(⟨(rd_T59 l0_1 x39_2).f0, rd x5_2 ((rd_T59 l0_1 x39_2).f1), (rd_T59 l0_1 x39_2).f2⟩ : S59)])) else (none)) = some (r1, r2, r3, r4) := qY hy650 H
                   have Ny650 := Aside0.mk hy650
                   clear hy650
                   by_cases c143 : x620001_2.length < 5864062014805
                   ·rw [if_pos c143] at H
                    have LMc143 := Aside0.mk c143
                    clear c143
                    obtain ⟨y651, hy651⟩ : ∃ y_ : List (S59), y_ = (x620001_2 ++ [(⟨(rd_T59 l0_1 x39_2).f0, rd x5_2 ((rd_T59 l0_1 x39_2).f1), (rd_T59 l0_1 x39_2).f2⟩ : S59)]) := ⟨_, rfl⟩
                    replace H : (spec_PruneCircuit.l1 k2 y650 t625 l0_1 (l0_1.length : Int) (wrap64 (x39_2 + 1)) a0_0 l0_1 l0_2 a0_0 y651) = some (r1, r2, r3, r4) := qY hy651 H
                    have Ny651 := Aside0.mk hy651
                    clear hy651
                    have H' := Aside0.mk H
                    clear H
                    have p628 : 0 ≤ (x39_2 : Int) := qD
                    have q628 : x39_2 < (l0_1.length : Int) := qD
                    obtain ⟨ad628, e628, hx628_0, hx628_1, hx628_2⟩ := at_T59 HR0_1.out x39_2 p628 q628
                    cases e628
                    replace hx628_0 := (HB.out.cell (World.block_lt_of_cell? w _ hx628_0)).trans hx628_0
                    replace hx628_1 := (HB.out.cell (World.block_lt_of_cell? w _ hx628_1)).trans hx628_1
                    replace hx628_2 := (HB.out.cell (World.block_lt_of_cell? w _ hx628_2)).trans hx628_2
                    replace p628 := eq_true p628
                    replace q628 := eq_true q628
                    try go_wp2_with (first | ((with_reducible refine gate_dst (N := 9) rfl ?_); refine box_event ?hg (N := 9) ?hd (cs := #[.int .i64 0, .int .i64 0, .int .i64 0]) (t := 59) ?hr ?_; (case hd => rfl); (case hg => rfl); (case hr => first | (go_simp; done) | (go_simp; rfl)); intro gb629 hg w144 hbox hb; have n0_ := Aside0.mk (Kd.R_below (qR HO_5.out) hb); have n1_ := Aside0.mk (Kd.R_below (qR HO_7.out) hb); have n2_ := Aside0.mk (Kd.R_below (Kd.R_elderB (qR HO_620001.out) gb629 (Nat.le_of_eq hg.symm)) hb); have n3_ := Aside0.mk (blk_below (g := gb616) (o := .cells #[.int .i64 a0_0, .slice (some ad628) l0_1.length c0_1, .slice A0_2 l0_2.length c0_2] 30 (0, 0)) (qK BK616.out) hb); have n4_ := Aside0.mk (blk_below (g := gb617) (o := .cells #[.int .i64 0, .slice none 0 0, .slice none 0 0] 30 (0, 0)) (qK BK617.out) hb); have n5_ := Aside0.mk (blk_below (g := gb619) (o := .cells #[.int .i64 a0_0, u620001, .slice none 0 0] 30 (0, 0)) (qK BK619.out) hb); have n6_ := Aside0.mk (below_step (qB) hb); have n7_ := Aside0.mk (hbox); have n8_ := Aside0.mk ((by rw [hg]; exact (below_size (qB)) : w.heap.size ≤ gb629)); have n9_ := Aside0.mk ((by rw [hg]; exact (below_size (qB)) : w.heap.size ≤ gb629)); have n10_ := Aside0.mk ((by rw [hg]; exact Nat.ne_of_lt (blk_lt (g := gb616) (o := .cells #[.int .i64 a0_0, .slice (some ad628) l0_1.length c0_1, .slice A0_2 l0_2.length c0_2] 30 (0, 0)) (qK BK616.out)) : gb616 ≠ gb629)); have n11_ := Aside0.mk ((by rw [hg]; exact Nat.ne_of_gt (blk_lt (g := gb616) (o := .cells #[.int .i64 a0_0, .slice (some ad628) l0_1.length c0_1, .slice A0_2 l0_2.length c0_2] 30 (0, 0)) (qK BK616.out)) : gb629 ≠ gb616)); have n12_ := Aside0.mk ((by rw [hg]; exact Nat.ne_of_lt (blk_lt (g := gb617) (o := .cells #[.int .i64 0, .slice none 0 0, .slice none 0 0] 30 (0, 0)) (qK BK617.out)) : gb617 ≠ gb629)); have n13_ := Aside0.mk ((by rw [hg]; exact Nat.ne_of_gt (blk_lt (g := gb617) (o := .cells #[.int .i64 0, .slice none 0 0, .slice none 0 0] 30 (0, 0)) (qK BK617.out)) : gb629 ≠ gb617)); have n14_ := Aside0.mk ((by rw [hg]; exact Nat.ne_of_lt (blk_lt (g := gb619) (o := .cells #[.int .i64 a0_0, u620001, .slice none 0 0] 30 (0, 0)) (qK BK619.out)) : gb619 ≠ gb629)); have n15_ := Aside0.mk ((by rw [hg]; exact Nat.ne_of_gt (blk_lt (g := gb619) (o := .cells #[.int .i64 a0_0, u620001, .slice none 0 0] 30 (0, 0)) (qK BK619.out)) : gb629 ≠ gb619)); clear HO_5; clear HO_7; clear HO_620001; clear BK616; clear BK617; clear BK619; clear HB; have HO_5 := n0_; have HO_7 := n1_; have HO_620001 := n2_; have BK616 := n3_; have BK617 := n4_; have BK619 := n5_; have HB := n6_; have BK629 := n7_; have GW629 := n8_; have GE629 := n9_; have NB616_629 := n10_; have NB629_616 := n11_; have NB617_629 := n12_; have NB629_617 := n13_; have NB619_629 := n14_; have NB629_619 := n15_; clear n0_ n1_ n2_ n3_ n4_ n5_ n6_ n7_ n8_ n9_ n10_ n11_ n12_ n13_ n14_ n15_; clear hb hbox hg; have hnb145 := NB629_616.out; have hnc145 := NB616_629.out; have hnb146 := NB629_617.out; have hnc146 := NB617_629.out; have hnb147 := NB629_619.out; have hnc147 := NB619_629.out; have hcz148_0 : w144.cell? ⟨gb629, 0, none⟩ = some (.int .i64 0) := (blk_cell BK629.out 0).trans rfl; have hcz148_1 : w144.cell? ⟨gb629, 1, none⟩ = some (.int .i64 0) := (blk_cell BK629.out 1).trans rfl; have hcz148_2 : w144.cell? ⟨gb629, 2, none⟩ = some (.int .i64 0) := (blk_cell BK629.out 2).trans rfl; have hfz148_0 := blk_frozen BK629.out 0; have hfz148_1 := blk_frozen BK629.out 1; have hfz148_2 := blk_frozen BK629.out 2; have hnb149 := NB616_617.out; have hnc149 := NB617_616.out; have hnb150 := NB616_619.out; have hnc150 := NB619_616.out; have hcz151_0 : w144.cell? ⟨gb616, 0, none⟩ = some (.int .i64 a0_0) := (blk_cell BK616.out 0).trans rfl; have hcz151_1 : w144.cell? ⟨gb616, 1, none⟩ = some (.slice (some ad628) l0_1.length c0_1) := (blk_cell BK616.out 1).trans rfl; have hcz151_2 : w144.cell? ⟨gb616, 2, none⟩ = some (.slice A0_2 l0_2.length c0_2) := (blk_cell BK616.out 2).trans rfl; have hfz151_0 := blk_frozen BK616.out 0; have hfz151_1 := blk_frozen BK616.out 1; have hfz151_2 := blk_frozen BK616.out 2; obtain ⟨Ao152, co152, eo152⟩ := Kd.R_slice HO_7.out; subst eo152) | ((with_reducible refine gate_callee (f := 56) rfl ?_); refine goesL_ (some 49) rfl rfl Try.func56 (by kernel_rfl) rfl #[.slice Ao152 t625.length co152, .int .i64 ji139] rfl (by (try simp only [List.map_toArray, List.map_cons, List.map_nil]); first | done | (simp only [hji139]; rfl) | rfl | (simp only [List.length_drop, List.length_take]; rfl)) ?_; (with_reducible refine (spec_l1Has.calls k2 _ _ t625 ji139 true _ ?side1 ?side2 A39.out).mono ?_); (case side1 => refine (Kd.R_reads' (e := 3) (base := w.heap.size) (ok := fun k_ => some k_ ≠ (v622 : Value).ownBlock) (n := t625.length) (c := co152) ?_).2.2; exact (by (with_reducible repeat (first | apply Kd.R_alloc | apply Kd.R_drewN | apply Kd.R_drew)); exact (Kd.R_mono (Kd.R_far (p := ⟨gb629, 2, none⟩) (Kd.R_far (p := ⟨gb629, 1, none⟩) (Kd.R_far (p := ⟨gb629, 0, none⟩) (Kd.R_types HO_7.out BK629.out (by decide)) (fun _ hk => hk.2) (.int .i64 ((rd_T59 l0_1 x39_2).f0))) (fun _ hk => hk.2) (.int .i64 ((rd_T59 l0_1 x39_2).f1))) (fun _ hk => hk.2) (.int .i64 ((rd_T59 l0_1 x39_2).f2))) (fun _ h_ => h_.1)))); (case side2 => exact (Kd.R_reads' HO_7.out).2.1); rintro e w153 ⟨rfl, hb⟩; refine ⟨_, rfl, ?_⟩; have n0_ := Aside0.mk (Kd.R_below (by (with_reducible repeat (first | apply Kd.R_alloc | apply Kd.R_drewN | apply Kd.R_drew)); exact (Kd.R_mono (Kd.R_far (p := ⟨gb629, 2, none⟩) (Kd.R_far (p := ⟨gb629, 1, none⟩) (Kd.R_far (p := ⟨gb629, 0, none⟩) (Kd.R_types HO_5.out BK629.out (by decide)) (fun _ hk => hk.2) (.int .i64 ((rd_T59 l0_1 x39_2).f0))) (fun _ hk => hk.2) (.int .i64 ((rd_T59 l0_1 x39_2).f1))) (fun _ hk => hk.2) (.int .i64 ((rd_T59 l0_1 x39_2).f2))) (fun _ h_ => h_.1))) hb); have n1_ := Aside0.mk (Kd.R_below (by (with_reducible repeat (first | apply Kd.R_alloc | apply Kd.R_drewN | apply Kd.R_drew)); exact (Kd.R_mono (Kd.R_far (p := ⟨gb629, 2, none⟩) (Kd.R_far (p := ⟨gb629, 1, none⟩) (Kd.R_far (p := ⟨gb629, 0, none⟩) (Kd.R_types HO_7.out BK629.out (by decide)) (fun _ hk => hk.2) (.int .i64 ((rd_T59 l0_1 x39_2).f0))) (fun _ hk => hk.2) (.int .i64 ((rd_T59 l0_1 x39_2).f1))) (fun _ hk => hk.2) (.int .i64 ((rd_T59 l0_1 x39_2).f2))) (fun _ h_ => h_.1))) hb); have n2_ := Aside0.mk (Kd.R_below (by (with_reducible repeat (first | apply Kd.R_alloc | apply Kd.R_drewN | apply Kd.R_drew)); exact (Kd.R_mono (Kd.R_far (p := ⟨gb629, 2, none⟩) (Kd.R_far (p := ⟨gb629, 1, none⟩) (Kd.R_far (p := ⟨gb629, 0, none⟩) (Kd.R_mono HO_620001.out (fun k_ hk => (⟨hk, hk.2⟩ : _ ∧ k_ ≠ gb629))) (fun _ hk => hk.2) (.int .i64 ((rd_T59 l0_1 x39_2).f0))) (fun _ hk => hk.2) (.int .i64 ((rd_T59 l0_1 x39_2).f1))) (fun _ hk => hk.2) (.int .i64 ((rd_T59 l0_1 x39_2).f2))) (fun _ h_ => h_.1))) hb); have n3_ := Aside0.mk (blk_below (g := gb616) (o := .cells #[.int .i64 a0_0, .slice (some ad628) l0_1.length c0_1, .slice A0_2 l0_2.length c0_2] 30 (0, 0)) (qF BK616.out) hb); have n4_ := Aside0.mk (blk_below (g := gb617) (o := .cells #[.int .i64 0, .slice none 0 0, .slice none 0 0] 30 (0, 0)) (qF BK617.out) hb); have n5_ := Aside0.mk (blk_below (g := gb619) (o := .cells #[.int .i64 a0_0, u620001, .slice none 0 0] 30 (0, 0)) (qF BK619.out) hb); have n6_ := Aside0.mk (blk_below (g := gb629) (o := .cells #[.int .i64 ((rd_T59 l0_1 x39_2).f0), .int .i64 ((rd_T59 l0_1 x39_2).f1), .int .i64 ((rd_T59 l0_1 x39_2).f2)] 59 (0, 0)) (by (with_reducible repeat (first | refine blk_drewN ?_ _ | refine blk_drew ?_ | refine blk_alloc ?_ _)); refine blk_put (cs := #[.int .i64 ((rd_T59 l0_1 x39_2).f0), .int .i64 ((rd_T59 l0_1 x39_2).f1), .int .i64 0]) ?_ 2 _ rfl; refine blk_put (cs := #[.int .i64 ((rd_T59 l0_1 x39_2).f0), .int .i64 0, .int .i64 0]) ?_ 1 _ rfl; refine blk_put (cs := #[.int .i64 0, .int .i64 0, .int .i64 0]) ?_ 0 _ rfl; exact qK BK629.out) hb); have n7_ := Aside0.mk (below_step (qB) hb); clear HO_5; clear HO_7; clear HO_620001; clear BK616; clear BK617; clear BK619; clear BK629; clear HB; have HO_5 := n0_; have HO_7 := n1_; have HO_620001 := n2_; have BK616 := n3_; have BK617 := n4_; have BK619 := n5_; have BK629 := n6_; have HB := n7_; clear n0_ n1_ n2_ n3_ n4_ n5_ n6_ n7_; (try clear hb); (try clear hb2); (try clear hk); (try clear hi); have hcz154_0 : w153.cell? ⟨gb629, 0, none⟩ = some (.int .i64 ((rd_T59 l0_1 x39_2).f0)) := (blk_cell BK629.out 0).trans rfl; have hcz154_1 : w153.cell? ⟨gb629, 1, none⟩ = some (.int .i64 ((rd_T59 l0_1 x39_2).f1)) := (blk_cell BK629.out 1).trans rfl; have hcz154_2 : w153.cell? ⟨gb629, 2, none⟩ = some (.int .i64 ((rd_T59 l0_1 x39_2).f2)) := (blk_cell BK629.out 2).trans rfl; have hfz154_0 := blk_frozen BK629.out 0; have hfz154_1 := blk_frozen BK629.out 1; have hfz154_2 := blk_frozen BK629.out 2; obtain ⟨Ao155, co155, eo155⟩ := Kd.R_slice HO_5.out; subst eo155; have p642 : 0 ≤ (((rd_T59 l0_1 x39_2).f1) : Int) := qD; have q642 : ((rd_T59 l0_1 x39_2).f1) < (x5_2.length : Int) := qD; obtain ⟨ad642, e642, hx642_0⟩ := Kd.at_int (Kd.R_reads' HO_5.out).2.2 ((rd_T59 l0_1 x39_2).f1) p642 q642; cases e642; replace p642 := eq_true p642; replace q642 := eq_true q642))
                    have n0_ : Aside0 (Kd.R (Kd.int .i64) 3 (w153.setCell ⟨gb629, 1, none⟩ (.int .i64 (rd x5_2 ((rd_T59 l0_1 x39_2).f1)))) w.heap.size (fun k_ => some k_ ≠ (.slice Ao152 t625.length co152 : Value).ownBlock) (.slice (some ad642) x5_2.length co155) x5_2) := ⟨by (with_reducible repeat (first | apply Kd.R_alloc | apply Kd.R_drewN | apply Kd.R_drew)); exact Kd.R_mono (Kd.R_far (p := ⟨gb629, 1, none⟩) (Kd.R_types HO_5.out BK629.out (by decide)) (fun _ hk => hk.2) (.int .i64 (rd x5_2 ((rd_T59 l0_1 x39_2).f1)))) (fun _ hk => hk.1)⟩
                    have n1_ : Aside0 (Kd.R (Kd.int .i64) 3 (w153.setCell ⟨gb629, 1, none⟩ (.int .i64 (rd x5_2 ((rd_T59 l0_1 x39_2).f1)))) w.heap.size (fun k_ => some k_ ≠ (.slice (some ad642) x5_2.length co155 : Value).ownBlock) (.slice Ao152 t625.length co152) t625) := ⟨by (with_reducible repeat (first | apply Kd.R_alloc | apply Kd.R_drewN | apply Kd.R_drew)); exact Kd.R_mono (Kd.R_far (p := ⟨gb629, 1, none⟩) (Kd.R_types HO_7.out BK629.out (by decide)) (fun _ hk => hk.2) (.int .i64 (rd x5_2 ((rd_T59 l0_1 x39_2).f1)))) (fun _ hk => hk.1)⟩
                    have n2_ : Aside0 (Kd.R k59 59 (w153.setCell ⟨gb629, 1, none⟩ (.int .i64 (rd x5_2 ((rd_T59 l0_1 x39_2).f1)))) w.heap.size (fun k_ => k_ ≠ gb629) u620001 x620001_2) := ⟨by (with_reducible repeat (first | apply Kd.R_alloc | apply Kd.R_drewN | apply Kd.R_drew)); exact Kd.R_mono (Kd.R_far (p := ⟨gb629, 1, none⟩) (Kd.R_mono HO_620001.out (fun k_ hk => (⟨hk, hk.2⟩ : _ ∧ k_ ≠ gb629))) (fun _ hk => hk.2) (.int .i64 (rd x5_2 ((rd_T59 l0_1 x39_2).f1)))) (fun _ hk => hk.1.2)⟩
                    have n3_ : Aside0 ((w153.setCell ⟨gb629, 1, none⟩ (.int .i64 (rd x5_2 ((rd_T59 l0_1 x39_2).f1)))).heap[gb616]? = some (.cells #[.int .i64 a0_0, .slice (some ad628) l0_1.length c0_1, .slice A0_2 l0_2.length c0_2] 30 (0, 0))) := ⟨by (with_reducible repeat (first | refine blk_drewN ?_ _ | refine blk_drew ?_ | refine blk_alloc ?_ _)); refine blk_far ?_ NB616_629.out _; exact qK BK616.out⟩
                    have n4_ : Aside0 ((w153.setCell ⟨gb629, 1, none⟩ (.int .i64 (rd x5_2 ((rd_T59 l0_1 x39_2).f1)))).heap[gb617]? = some (.cells #[.int .i64 0, .slice none 0 0, .slice none 0 0] 30 (0, 0))) := ⟨by (with_reducible repeat (first | refine blk_drewN ?_ _ | refine blk_drew ?_ | refine blk_alloc ?_ _)); refine blk_far ?_ NB617_629.out _; exact qK BK617.out⟩
                    have n5_ : Aside0 ((w153.setCell ⟨gb629, 1, none⟩ (.int .i64 (rd x5_2 ((rd_T59 l0_1 x39_2).f1)))).heap[gb619]? = some (.cells #[.int .i64 a0_0, u620001, .slice none 0 0] 30 (0, 0))) := ⟨by (with_reducible repeat (first | refine blk_drewN ?_ _ | refine blk_drew ?_ | refine blk_alloc ?_ _)); refine blk_far ?_ NB619_629.out _; exact qK BK619.out⟩
                    have n6_ : Aside0 ((w153.setCell ⟨gb629, 1, none⟩ (.int .i64 (rd x5_2 ((rd_T59 l0_1 x39_2).f1)))).heap[gb629]? = some (.cells #[.int .i64 ((rd_T59 l0_1 x39_2).f0), .int .i64 (rd x5_2 ((rd_T59 l0_1 x39_2).f1)), .int .i64 ((rd_T59 l0_1 x39_2).f2)] 59 (0, 0))) := ⟨by (with_reducible repeat (first | refine blk_drewN ?_ _ | refine blk_drew ?_ | refine blk_alloc ?_ _)); refine blk_put (cs := #[.int .i64 ((rd_T59 l0_1 x39_2).f0), .int .i64 ((rd_T59 l0_1 x39_2).f1), .int .i64 ((rd_T59 l0_1 x39_2).f2)]) ?_ 1 _ rfl; exact qK BK629.out⟩
                    have n7_ : Aside0 (Below w.heap.size w (w153.setCell ⟨gb629, 1, none⟩ (.int .i64 (rd x5_2 ((rd_T59 l0_1 x39_2).f1))))) := ⟨qB⟩
                    (try clear HO_5)
                    (try clear HO_7)
                    (try clear HO_620001)
                    (try clear BK616)
                    (try clear BK617)
                    (try clear BK619)
                    (try clear BK629)
                    (try clear HB)
                    generalize (w153.setCell ⟨gb629, 1, none⟩ (.int .i64 (rd x5_2 ((rd_T59 l0_1 x39_2).f1)))) = w156 at n0_ n1_ n2_ n3_ n4_ n5_ n6_ n7_ ⊢
                    have HO_5 := n0_
                    have HO_7 := n1_
                    have HO_620001 := n2_
                    have BK616 := n3_
                    have BK617 := n4_
                    have BK619 := n5_
                    have BK629 := n6_
                    have HB := n7_
                    clear n0_ n1_ n2_ n3_ n4_ n5_ n6_ n7_
                    have n0_ := Aside0.mk (Kd.R_drew HO_5.out)
                    have n1_ := Aside0.mk (Kd.R_drew HO_7.out)
                    have n2_ := Aside0.mk (Kd.R_drew HO_620001.out)
                    have n3_ := Aside0.mk (blk_drew BK616.out)
                    have n4_ := Aside0.mk (blk_drew BK617.out)
                    have n5_ := Aside0.mk (blk_drew BK619.out)
                    have n6_ := Aside0.mk (blk_drew BK629.out)
                    have n7_ := Aside0.mk (below_drew1 HB.out)
                    clear HO_5
                    clear HO_7
                    clear HO_620001
                    clear BK616
                    clear BK617
                    clear BK619
                    clear BK629
                    clear HB
                    have HO_5 := n0_
                    have HO_7 := n1_
                    have HO_620001 := n2_
                    have BK616 := n3_
                    have BK617 := n4_
                    have BK619 := n5_
                    have BK629 := n6_
                    have HB := n7_
                    clear n0_ n1_ n2_ n3_ n4_ n5_ n6_ n7_
                    obtain ⟨Ao158, co158, eo158⟩ := Kd.R_slice HO_620001.out
                    (first | subst eo158 | (injection eo158 with f1_ f2_ f3_; have f4_ := f1_.symm; have f5_ := f3_.symm; clear f1_ f2_ f3_; subst f4_; subst f5_))
                    refine start_ (n := 9) (S := fun w' => w'.cell? ⟨gb616, 0, none⟩ = some (.int .i64 a0_0) ∧ w'.cell? ⟨gb616, 1, none⟩ = some (.slice (some ad628) l0_1.length c0_1) ∧ w'.cell? ⟨gb616, 2, none⟩ = some (.slice A0_2 l0_2.length c0_2) ∧ w'.cell? ⟨gb619, 0, none⟩ = some (.int .i64 a0_0) ∧ w'.cell? ⟨gb619, 1, none⟩ = some (.slice Ao158 x620001_2.length co158) ∧ w'.cell? ⟨gb619, 2, none⟩ = some (.slice none 0 0)) (ds := [8]) bX32_0 (by kernel_rfl) rfl rfl ⟨(blk_cell BK616.out 0).trans rfl, (blk_cell BK616.out 1).trans rfl, (blk_cell BK616.out 2).trans rfl, (blk_cell BK619.out 0).trans rfl, (blk_cell BK619.out 1).trans rfl, (blk_cell BK619.out 2).trans rfl⟩ (fun hHeld => ?_); refine with_tabW spec_PruneCircuit.tab18 spec_PruneCircuit.bits18 (fun HT_ HW_ => ?_)
                    generalize w156.drew = w157 at HO_5 HO_7 HO_620001 BK616 BK617 BK619 BK629 HB hHeld ⊢
                    refine pure_ (i := 0) (N := some 69) (v := ?_) (a' := ?_) bX32_1 rfl rfl (any_of HT_.out (by kernel_rfl)) (fun _ _ _ h => h) (Or.inl ⟨by rfl, ?_⟩) ?_ ?_
                    rotate_left
                    ·intro w'
                     go_simp
                     with_reducible rfl
                    rotate_left
                    ·simp only [Act.put, List.setIfInBounds_toArray, List.set_cons_zero, List.set_cons_succ, i64_w, i32_w]
                     rfl
                    refine pure_ (i := 1) (N := some 70) (v := ?_) (a' := ?_) bX32_2 rfl rfl (any_of HT_.out (by kernel_rfl)) (fun _ _ _ h => h) (Or.inl ⟨by rfl, ?_⟩) ?_ ?_
                    rotate_left
                    ·intro w'
                     go_simp
                     with_reducible rfl
                    rotate_left
                    ·simp only [Act.put, List.setIfInBounds_toArray, List.set_cons_zero, List.set_cons_succ, i64_w, i32_w]
                     rfl
                    refine pure_ (i := 3) (N := some 72) (v := ?_) (a' := ?_) bX32_3 rfl rfl (any_of HT_.out (by kernel_rfl)) (fun _ _ _ h => h) (Or.inl ⟨by rfl, ?_⟩) ?_ ?_
                    rotate_left
                    ·intro w'
                     go_simp
                     with_reducible rfl
                    rotate_left
                    ·simp only [Act.put, List.setIfInBounds_toArray, List.set_cons_zero, List.set_cons_succ, i64_w, i32_w]
                     rfl
                    refine take_ (i := 2) (N := some 71) (v := ?_) (a' := ?_) bX32_4 rfl rfl (take_ofW HT_.out HW_.out (by kernel_rfl)) (fun _ _ _ h => h) (Or.inl ⟨by rfl, ?_⟩) hHeld ?_ ?_
                    rotate_left
                    ·rintro w' ⟨s0, s1, s2, s3, s4, s5⟩
                     go_simp
                     with_reducible rfl
                    rotate_left
                    ·simp only [Act.put, List.setIfInBounds_toArray, List.set_cons_zero, List.set_cons_succ, i64_w, i32_w]
                     rfl
                    refine pure_ (i := 4) (N := some 73) (v := ?_) (a' := ?_) bX32_5 rfl rfl (any_of HT_.out (by kernel_rfl)) (fun _ _ _ h => h) (Or.inl ⟨by rfl, ?_⟩) ?_ ?_
                    rotate_left
                    ·intro w'
                     go_simp
                     with_reducible rfl
                    rotate_left
                    ·simp only [Act.put, List.setIfInBounds_toArray, List.set_cons_zero, List.set_cons_succ, i64_w, i32_w]
                     rfl
                    refine take_ (i := 5) (N := some 74) (v := ?_) (a' := ?_) bX32_6 rfl rfl (take_ofW HT_.out HW_.out (by kernel_rfl)) (fun _ _ _ h => h) (Or.inl ⟨by rfl, ?_⟩) hHeld ?_ ?_
                    rotate_left
                    ·rintro w' ⟨s0, s1, s2, s3, s4, s5⟩
                     go_simp
                     with_reducible rfl
                    rotate_left
                    ·simp only [Act.put, List.setIfInBounds_toArray, List.set_cons_zero, List.set_cons_succ, i64_w, i32_w]
                     rfl
                    refine one_ (i := 6) (N := some 75) bX32_7 rfl rfl (one_of HT_.out (by kernel_rfl)) (by decide) (fun K hK => ?_)
                    refine goes_ Try.func45 (by kernel_rfl) rfl #[.agg #[.int .i64 a0_0, .slice Ao158 x620001_2.length co158, .slice none 0 0]] (by rfl) rfl rfl qG ?_
                    refine (spec_l4Wires.calls a0_0 _ _ x620001_2 _ _ ([] : List Int) t649 _ ?side1 ?side2 ?side3 ?side4 A138.out).mono ?_
                    (case side1 => repeat (first | exact (Kd.R_reads' HO_620001.out).2.2 | (with_reducible refine Kd.C_alloc ?_ _) | (with_reducible refine Kd.C_drewN ?_ _) | (with_reducible refine Kd.C_drew ?_)))
                    (case side2 => exact (Kd.R_reads' HO_620001.out).2.1)
                    (case side3 => exact Kd.C_nil _ _)
                    (case side4 => exact Nat.le_refl _)
                    rintro e w159 ⟨rfl, hb⟩
                    refine ⟨_, rfl, ?_⟩
                    have n0_ := Aside0.mk (Kd.R_below (qR HO_5.out) hb)
                    have n1_ := Aside0.mk (Kd.R_below (qR HO_7.out) hb)
                    have n2_ := Aside0.mk (Kd.R_below (qR HO_620001.out) hb)
                    have n3_ := Aside0.mk (blk_below (g := gb616) (o := .cells #[.int .i64 a0_0, .slice (some ad628) l0_1.length c0_1, .slice A0_2 l0_2.length c0_2] 30 (0, 0)) (qK BK616.out) hb)
                    have n4_ := Aside0.mk (blk_below (g := gb617) (o := .cells #[.int .i64 0, .slice none 0 0, .slice none 0 0] 30 (0, 0)) (qK BK617.out) hb)
                    have n5_ := Aside0.mk (blk_below (g := gb619) (o := .cells #[.int .i64 a0_0, .slice Ao158 x620001_2.length co158, .slice none 0 0] 30 (0, 0)) (qK BK619.out) hb)
                    have n6_ := Aside0.mk (blk_below (g := gb629) (o := .cells #[.int .i64 ((rd_T59 l0_1 x39_2).f0), .int .i64 (rd x5_2 ((rd_T59 l0_1 x39_2).f1)), .int .i64 ((rd_T59 l0_1 x39_2).f2)] 59 (0, 0)) (qK BK629.out) hb)
                    have n7_ := Aside0.mk (below_step (qB) hb)
                    clear HO_5
                    clear HO_7
                    clear HO_620001
                    clear BK616
                    clear BK617
                    clear BK619
                    clear BK629
                    clear HB
                    have HO_5 := n0_
                    have HO_7 := n1_
                    have HO_620001 := n2_
                    have BK616 := n3_
                    have BK617 := n4_
                    have BK619 := n5_
                    have BK629 := n6_
                    have HB := n7_
                    clear n0_ n1_ n2_ n3_ n4_ n5_ n6_ n7_
                    (try clear hb)
                    (try clear hb2)
                    (try clear hk)
                    (try clear hi)
                    have p142 : 0 ≤ ((ji139) : Int) := qD
                    have q142 : ((ji139) : Int) < ((x5_2.length : Int) : Int) := qD
                    obtain ⟨go142, co142, eo142, gb142, gl142, cl142, HG142⟩ := Kd.R_form HO_5.out (by omega)
                    (first | cases eo142 | (injection eo142 with ea_ en_ ec_; (first | subst ea_ | (injection ea_ with ea_; subst ea_)); subst ec_; clear en_))
                    have GB142 := Aside0.mk gb142
                    have GG142 := Aside0.mk HG142
                    clear gb142 gl142 HG142
                    (first | simp only [add_plain] at hx642_0 | skip)
                    obtain ⟨hx142_0, hf142_0⟩ := Kd.R_celln 0 HO_5.out ((ji139) : Int) p142 q142
                    replace p142 := eq_true p142
                    replace q142 := eq_true q142
                    have HP160 := Kd.R_putn HO_5.out ((ji139) : Int) t649
                    rw [← Ny650.out] at HP160
                    have HQ160 := Aside0.mk HP160
                    clear HP160
                    refine hK.out _ _ ⟨(blk_cell BK616.out 0).trans rfl, (blk_cell BK616.out 1).trans rfl, (blk_cell BK616.out 2).trans rfl, (blk_cell BK619.out 0).trans rfl, (blk_cell BK619.out 1).trans rfl, (blk_cell BK619.out 2).trans rfl⟩ (fun hHeld => ?_)
                    clear hK K
                    refine norm_ (a' := ?_) ?_ ?_
                    rotate_left
                    ·show Act.put _ (some 75) _ = _
                     simp only [Act.put, List.setIfInBounds_toArray, List.set_cons_zero, List.set_cons_succ, i64_w, i32_w]
                     rfl
                    refine pure_ (i := 7) (N := some 76) (v := ?_) (a' := ?_) bX32_8 rfl rfl (any_of HT_.out (by kernel_rfl)) (fun _ _ _ h => h) (Or.inl ⟨by rfl, ?_⟩) ?_ ?_
                    rotate_left
                    ·intro w'
                     go_simp
                     with_reducible rfl
                    rotate_left
                    ·simp only [Act.put, List.setIfInBounds_toArray, List.set_cons_zero, List.set_cons_succ, i64_w, i32_w]
                     rfl
                    refine last_ (i := 8) (N := none) bX32_9 rfl rfl (one_of HT_.out (by kernel_rfl)) (by decide) (fun K hK => ?_)
                    refine skip_ (w1 := ?_) (by rfl) rfl ?_ ?_
                    rotate_left
                    ·go_simp
                     rfl
                    refine hK.out _ _ ?_
                    clear hK K
                    refine done_ (done_of HT_.out (by kernel_rfl)) ?_
                    have n0_ : Aside0 (Kd.R (Kd.int .i64) 3 (w159.setCell ⟨go142, ((ji139) : Int).toNat, none⟩ (.int .i64 t649)) w.heap.size (fun k_ => some k_ ≠ (.slice Ao152 t625.length co152 : Value).ownBlock) (.slice (some ⟨go142, 0, none⟩) x5_2.length co155) y650) := ⟨qR HQ160.out⟩
                    have n1_ : Aside0 (Kd.R (Kd.int .i64) 3 (w159.setCell ⟨go142, ((ji139) : Int).toNat, none⟩ (.int .i64 t649)) w.heap.size (fun k_ => some k_ ≠ (.slice (some ⟨go142, 0, none⟩) x5_2.length co155 : Value).ownBlock) (.slice Ao152 t625.length co152) t625) := ⟨by (with_reducible repeat (first | apply Kd.R_alloc | apply Kd.R_drewN | apply Kd.R_drew)); exact Kd.R_mono (Kd.R_far (p := ⟨go142, ((ji139) : Int).toNat, none⟩) (Kd.R_mono HO_7.out (fun k_ hk => (⟨hk, fun e_ => hk (by rw [e_]; rfl)⟩ : _ ∧ k_ ≠ go142))) (fun _ hk => hk.2) (.int .i64 t649)) (fun _ hk => hk.1)⟩
                    have n2_ : Aside0 (Kd.R k59 59 (w159.setCell ⟨go142, ((ji139) : Int).toNat, none⟩ (.int .i64 t649)) w.heap.size (fun k_ => k_ ≠ gb629) (.slice Ao158 x620001_2.length co158) x620001_2) := ⟨by (with_reducible repeat (first | apply Kd.R_alloc | apply Kd.R_drewN | apply Kd.R_drew)); exact Kd.R_mono (Kd.R_far (p := ⟨go142, ((ji139) : Int).toNat, none⟩) (Kd.R_types HO_620001.out GG142.out (by decide)) (fun _ hk => hk.2) (.int .i64 t649)) (fun _ hk => hk.1)⟩
                    have n3_ : Aside0 ((w159.setCell ⟨go142, ((ji139) : Int).toNat, none⟩ (.int .i64 t649)).heap[gb616]? = some (.cells #[.int .i64 a0_0, .slice (some ad628) l0_1.length c0_1, .slice A0_2 l0_2.length c0_2] 30 (0, 0))) := ⟨by (with_reducible repeat (first | refine blk_drewN ?_ _ | refine blk_drew ?_ | refine blk_alloc ?_ _)); refine blk_far ?_ (by have h_ := Kd.R_ne HO_5.out BK616.out (by decide); intro e_; exact h_ (by rw [e_]; rfl)) _; exact qK BK616.out⟩
                    have n4_ : Aside0 ((w159.setCell ⟨go142, ((ji139) : Int).toNat, none⟩ (.int .i64 t649)).heap[gb617]? = some (.cells #[.int .i64 0, .slice none 0 0, .slice none 0 0] 30 (0, 0))) := ⟨by (with_reducible repeat (first | refine blk_drewN ?_ _ | refine blk_drew ?_ | refine blk_alloc ?_ _)); refine blk_far ?_ (by have h_ := Kd.R_ne HO_5.out BK617.out (by decide); intro e_; exact h_ (by rw [e_]; rfl)) _; exact qK BK617.out⟩
                    have n5_ : Aside0 ((w159.setCell ⟨go142, ((ji139) : Int).toNat, none⟩ (.int .i64 t649)).heap[gb619]? = some (.cells #[.int .i64 a0_0, .slice Ao158 x620001_2.length co158, .slice none 0 0] 30 (0, 0))) := ⟨by (with_reducible repeat (first | refine blk_drewN ?_ _ | refine blk_drew ?_ | refine blk_alloc ?_ _)); refine blk_far ?_ (by have h_ := Kd.R_ne HO_5.out BK619.out (by decide); intro e_; exact h_ (by rw [e_]; rfl)) _; exact qK BK619.out⟩
                    have n6_ : Aside0 ((w159.setCell ⟨go142, ((ji139) : Int).toNat, none⟩ (.int .i64 t649)).heap[gb629]? = some (.cells #[.int .i64 ((rd_T59 l0_1 x39_2).f0), .int .i64 (rd x5_2 ((rd_T59 l0_1 x39_2).f1)), .int .i64 ((rd_T59 l0_1 x39_2).f2)] 59 (0, 0))) := ⟨by (with_reducible repeat (first | refine blk_drewN ?_ _ | refine blk_drew ?_ | refine blk_alloc ?_ _)); refine blk_far ?_ (by have h_ := Kd.R_ne HO_5.out BK629.out (by decide); intro e_; exact h_ (by rw [e_]; rfl)) _; exact qK BK629.out⟩
                    have n7_ : Aside0 (Below w.heap.size w (w159.setCell ⟨go142, ((ji139) : Int).toNat, none⟩ (.int .i64 t649))) := ⟨by repeat (first | (with_reducible first | exact HB.out | apply below_alloc | apply pw_below_drewN | apply below_drew1 | refine below_set ?_ GB142.out | refine below_set ?_ GE616.out | refine below_set ?_ GE617.out | refine below_set ?_ GE619.out | refine below_set ?_ GE629.out) | exact HB.out)⟩
                    (try clear HO_5)
                    (try clear HO_7)
                    (try clear HO_620001)
                    (try clear BK616)
                    (try clear BK617)
                    (try clear BK619)
                    (try clear BK629)
                    (try clear HB)
                    generalize (w159.setCell ⟨go142, ((ji139) : Int).toNat, none⟩ (.int .i64 t649)) = w161 at n0_ n1_ n2_ n3_ n4_ n5_ n6_ n7_ ⊢
                    have HO_5 := n0_
                    have HO_7 := n1_
                    have HO_620001 := n2_
                    have BK616 := n3_
                    have BK617 := n4_
                    have BK619 := n5_
                    have BK629 := n6_
                    have HB := n7_
                    clear n0_ n1_ n2_ n3_ n4_ n5_ n6_ n7_
                    have hnb162 := NB619_617.out
                    have hnc162 := NB617_619.out
                    have hcz163_0 : w161.cell? ⟨gb619, 0, none⟩ = some (.int .i64 a0_0) := (blk_cell BK619.out 0).trans rfl
                    have hcz163_1 : w161.cell? ⟨gb619, 1, none⟩ = some (.slice Ao158 x620001_2.length co158) := (blk_cell BK619.out 1).trans rfl
                    have hcz163_2 : w161.cell? ⟨gb619, 2, none⟩ = some (.slice none 0 0) := (blk_cell BK619.out 2).trans rfl
                    have hfz163_0 := blk_frozen BK619.out 0
                    have hfz163_1 := blk_frozen BK619.out 1
                    have hfz163_2 := blk_frozen BK619.out 2
                    have hcz164_0 : w161.cell? ⟨gb629, 0, none⟩ = some (.int .i64 ((rd_T59 l0_1 x39_2).f0)) := (blk_cell BK629.out 0).trans rfl
                    have hcz164_1 : w161.cell? ⟨gb629, 1, none⟩ = some (.int .i64 (rd x5_2 ((rd_T59 l0_1 x39_2).f1))) := (blk_cell BK629.out 1).trans rfl
                    have hcz164_2 : w161.cell? ⟨gb629, 2, none⟩ = some (.int .i64 ((rd_T59 l0_1 x39_2).f2)) := (blk_cell BK629.out 2).trans rfl
                    have hfz164_0 := blk_frozen BK629.out 0
                    have hfz164_1 := blk_frozen BK629.out 1
                    have hfz164_2 := blk_frozen BK629.out 2
                    try go_wp2_with (first | ((with_reducible refine gate_builtin (b := .append) (xs := #[.tmp 78, .tmp 80]) rfl ?_); at_builtin; refine Kd.R_append k59 (w0 := w) w.heap.size rfl (.tmp 78) (.tmp 80) 28 59 (.agg #[(.int .i64 0), (.int .i64 0), (.int .i64 0)]) 24 rfl Try.underlying28 info59 rfl (by decide) (by omega) (.slice Ao158 x620001_2.length co158) x620001_2 (⟨(rd_T59 l0_1 x39_2).f0, rd x5_2 ((rd_T59 l0_1 x39_2).f1), (rd_T59 l0_1 x39_2).f2⟩ : S59) [.int .i64 ((rd_T59 l0_1 x39_2).f0), .int .i64 (rd x5_2 ((rd_T59 l0_1 x39_2).f1)), .int .i64 ((rd_T59 l0_1 x39_2).f2)] (fun k_ => k_ ≠ gb629) (fun _ => False) rfl rfl ?aP (fun _ hk => hk.elim) ?aF ?aO ?aB ?aS ?aL ?_; (case aP => exact k59_mkM _ _ _ (⟨(rd_T59 l0_1 x39_2).f0, rd x5_2 ((rd_T59 l0_1 x39_2).f1), (rd_T59 l0_1 x39_2).f2⟩ : S59)); (case aB => exact (qB)); (case aF => exact (fun k_ hk => Kd.freshB (g := gb629) (o := .cells #[.int .i64 ((rd_T59 l0_1 x39_2).f0), .int .i64 (rd x5_2 ((rd_T59 l0_1 x39_2).f1)), .int .i64 ((rd_T59 l0_1 x39_2).f2)] 59 (0, 0)) (qK BK629.out) k_ hk)); (case aO => exact (qR HO_620001.out)); (case aS => exact (below_size (qB))); (case aL => have := LMc143.out; omega); intro v652 w165 ho hb hg hat; rw [← Ny651.out] at ho; have n0_ := Aside0.mk (Kd.R_over' (qR HO_5.out) (Kd.R_typed (qR HO_620001.out)) (by decide) hg); have n1_ := Aside0.mk (Kd.R_over' (qR HO_7.out) (Kd.R_typed (qR HO_620001.out)) (by decide) hg); have n2_ := Aside0.mk (blk_grown (g := gb616) (o := .cells #[.int .i64 a0_0, .slice (some ad628) l0_1.length c0_1, .slice A0_2 l0_2.length c0_2] 30 (0, 0)) (qK BK616.out) hg (Kd.R_ne HO_620001.out BK616.out (by decide))); have n3_ := Aside0.mk (blk_grown (g := gb617) (o := .cells #[.int .i64 0, .slice none 0 0, .slice none 0 0] 30 (0, 0)) (qK BK617.out) hg (Kd.R_ne HO_620001.out BK617.out (by decide))); have n4_ := Aside0.mk (blk_grown (g := gb619) (o := .cells #[.int .i64 a0_0, .slice Ao158 x620001_2.length co158, .slice none 0 0] 30 (0, 0)) (qK BK619.out) hg (Kd.R_ne HO_620001.out BK619.out (by decide))); have n5_ := Aside0.mk (blk_grown (g := gb629) (o := .cells #[.int .i64 ((rd_T59 l0_1 x39_2).f0), .int .i64 (rd x5_2 ((rd_T59 l0_1 x39_2).f1)), .int .i64 ((rd_T59 l0_1 x39_2).f2)] 59 (0, 0)) (qK BK629.out) hg (Kd.R_away HO_620001.out (fun _ hk => hk))); have n6_ := Aside0.mk (hb); have n7_ := Aside0.mk (ho); clear HO_5; clear HO_7; clear BK616; clear BK617; clear BK619; clear BK629; clear HB; clear HO_620001; have HO_5 := n0_; have HO_7 := n1_; have BK616 := n2_; have BK617 := n3_; have BK619 := n4_; have BK629 := n5_; have HB := n6_; have HO653 := n7_; clear n0_ n1_ n2_ n3_ n4_ n5_ n6_ n7_; clear ho hb hg hat; obtain ⟨Ao166, co166, eo166⟩ := Kd.R_slice HO653.out; subst eo166; have hcz167_0 : w165.cell? ⟨gb619, 0, none⟩ = some (.int .i64 a0_0) := (blk_cell BK619.out 0).trans rfl; have hcz167_1 : w165.cell? ⟨gb619, 1, none⟩ = some (.slice Ao158 x620001_2.length co158) := (blk_cell BK619.out 1).trans rfl; have hcz167_2 : w165.cell? ⟨gb619, 2, none⟩ = some (.slice none 0 0) := (blk_cell BK619.out 2).trans rfl; have hfz167_0 := blk_frozen BK619.out 0; have hfz167_1 := blk_frozen BK619.out 1; have hfz167_2 := blk_frozen BK619.out 2))
                    go_roundg k2
                    case measure => have := HK1.out; have := HK2.out; omega
                    case rel => exact ⟨(y650), (wrap64 (x39_2 + 1)), (y651), (.slice Ao166 y651.length co166), qS, H', ⟨by have := HK1.out; have := HK2.out; omega⟩, ⟨by (with_reducible repeat (first | apply Kd.R_alloc | apply Kd.R_drewN | apply Kd.R_drew)); exact Kd.R_mono (Kd.R_far (p := ⟨gb619, 1, none⟩) (Kd.R_types HO_5.out BK619.out (by decide)) (fun _ hk => hk.2) (.slice Ao166 y651.length co166)) (fun _ hk => hk.1)⟩, ⟨by (with_reducible repeat (first | apply Kd.R_alloc | apply Kd.R_drewN | apply Kd.R_drew)); exact Kd.R_mono (Kd.R_far (p := ⟨gb619, 1, none⟩) (Kd.R_types HO_7.out BK619.out (by decide)) (fun _ hk => hk.2) (.slice Ao166 y651.length co166)) (fun _ hk => hk.1)⟩, ⟨by (with_reducible repeat (first | apply Kd.R_alloc | apply Kd.R_drewN | apply Kd.R_drew)); exact Kd.R_mono (Kd.R_far (p := ⟨gb619, 1, none⟩) (Kd.R_types HO653.out BK619.out (by decide)) (fun _ hk => hk.2) (.slice Ao166 y651.length co166)) (fun _ hk => trivial)⟩, ⟨by (with_reducible repeat (first | refine blk_drewN ?_ _ | refine blk_drew ?_ | refine blk_alloc ?_ _)); refine blk_far ?_ NB616_619.out _; exact qK BK616.out⟩, ⟨by (with_reducible repeat (first | refine blk_drewN ?_ _ | refine blk_drew ?_ | refine blk_alloc ?_ _)); refine blk_far ?_ NB617_619.out _; exact qK BK617.out⟩, ⟨by (with_reducible repeat (first | refine blk_drewN ?_ _ | refine blk_drew ?_ | refine blk_alloc ?_ _)); refine blk_put (cs := #[.int .i64 a0_0, .slice Ao158 x620001_2.length co158, .slice none 0 0]) ?_ 1 _ rfl; exact qK BK619.out⟩, ⟨qB⟩⟩
                   ·rw [if_neg c143] at H
                    exact absurd H (by simp)
                  ·rw [if_neg c141] at H
                   exact absurd H (by simp)
                 ·rw [if_neg c140] at H
                  exact absurd H (by simp)
               ·rw [if_neg c104] at H
                exact absurd H (by simp)
              ·rw [if_neg c103] at H
               exact absurd H (by simp)
            ·replace c40 := Bool.eq_false_iff.mpr c40
             subst c40
             have H1 : (spec_PruneCircuit.l1 k2 x5_2 t625 l0_1 (l0_1.length : Int) (wrap64 (x39_2 + 1)) a0_0 l0_1 l0_2 a0_0 x620001_2) = some (r1, r2, r3, r4) := by rw [if_neg (show ¬ (false = true) by decide)] at H; exact H
             clear H
             have H := H1
             clear H1
             have H' := Aside0.mk H
             clear H
             have p628 : 0 ≤ (x39_2 : Int) := qD
             have q628 : x39_2 < (l0_1.length : Int) := qD
             obtain ⟨ad628, e628, hx628_0, hx628_1, hx628_2⟩ := at_T59 HR0_1.out x39_2 p628 q628
             cases e628
             replace hx628_0 := (HB.out.cell (World.block_lt_of_cell? w _ hx628_0)).trans hx628_0
             replace hx628_1 := (HB.out.cell (World.block_lt_of_cell? w _ hx628_1)).trans hx628_1
             replace hx628_2 := (HB.out.cell (World.block_lt_of_cell? w _ hx628_2)).trans hx628_2
             replace p628 := eq_true p628
             replace q628 := eq_true q628
             go_wp2_with (first | ((with_reducible refine gate_dst (N := 9) rfl ?_); refine box_event ?hg (N := 9) ?hd (cs := #[.int .i64 0, .int .i64 0, .int .i64 0]) (t := 59) ?hr ?_; (case hd => rfl); (case hg => rfl); (case hr => first | (go_simp; done) | (go_simp; rfl)); intro gb629 hg w168 hbox hb; have n0_ := Aside0.mk (Kd.R_below (qR HO_5.out) hb); have n1_ := Aside0.mk (Kd.R_below (qR HO_7.out) hb); have n2_ := Aside0.mk (Kd.R_below (Kd.R_elderB (qR HO_620001.out) gb629 (Nat.le_of_eq hg.symm)) hb); have n3_ := Aside0.mk (blk_below (g := gb616) (o := .cells #[.int .i64 a0_0, .slice (some ad628) l0_1.length c0_1, .slice A0_2 l0_2.length c0_2] 30 (0, 0)) (qK BK616.out) hb); have n4_ := Aside0.mk (blk_below (g := gb617) (o := .cells #[.int .i64 0, .slice none 0 0, .slice none 0 0] 30 (0, 0)) (qK BK617.out) hb); have n5_ := Aside0.mk (blk_below (g := gb619) (o := .cells #[.int .i64 a0_0, u620001, .slice none 0 0] 30 (0, 0)) (qK BK619.out) hb); have n6_ := Aside0.mk (below_step (qB) hb); have n7_ := Aside0.mk (hbox); have n8_ := Aside0.mk ((by rw [hg]; exact (below_size (qB)) : w.heap.size ≤ gb629)); have n9_ := Aside0.mk ((by rw [hg]; exact (below_size (qB)) : w.heap.size ≤ gb629)); have n10_ := Aside0.mk ((by rw [hg]; exact Nat.ne_of_lt (blk_lt (g := gb616) (o := .cells #[.int .i64 a0_0, .slice (some ad628) l0_1.length c0_1, .slice A0_2 l0_2.length c0_2] 30 (0, 0)) (qK BK616.out)) : gb616 ≠ gb629)); have n11_ := Aside0.mk ((by rw [hg]; exact Nat.ne_of_gt (blk_lt (g := gb616) (o := .cells #[.int .i64 a0_0, .slice (some ad628) l0_1.length c0_1, .slice A0_2 l0_2.length c0_2] 30 (0, 0)) (qK BK616.out)) : gb629 ≠ gb616)); have n12_ := Aside0.mk ((by rw [hg]; exact Nat.ne_of_lt (blk_lt (g := gb617) (o := .cells #[.int .i64 0, .slice none 0 0, .slice none 0 0] 30 (0, 0)) (qK BK617.out)) : gb617 ≠ gb629)); have n13_ := Aside0.mk ((by rw [hg]; exact Nat.ne_of_gt (blk_lt (g := gb617) (o := .cells #[.int .i64 0, .slice none 0 0, .slice none 0 0] 30 (0, 0)) (qK BK617.out)) : gb629 ≠ gb617)); have n14_ := Aside0.mk ((by rw [hg]; exact Nat.ne_of_lt (blk_lt (g := gb619) (o := .cells #[.int .i64 a0_0, u620001, .slice none 0 0] 30 (0, 0)) (qK BK619.out)) : gb619 ≠ gb629)); have n15_ := Aside0.mk ((by rw [hg]; exact Nat.ne_of_gt (blk_lt (g := gb619) (o := .cells #[.int .i64 a0_0, u620001, .slice none 0 0] 30 (0, 0)) (qK BK619.out)) : gb629 ≠ gb619)); clear HO_5; clear HO_7; clear HO_620001; clear BK616; clear BK617; clear BK619; clear HB; have HO_5 := n0_; have HO_7 := n1_; have HO_620001 := n2_; have BK616 := n3_; have BK617 := n4_; have BK619 := n5_; have HB := n6_; have BK629 := n7_; have GW629 := n8_; have GE629 := n9_; have NB616_629 := n10_; have NB629_616 := n11_; have NB617_629 := n12_; have NB629_617 := n13_; have NB619_629 := n14_; have NB629_619 := n15_; clear n0_ n1_ n2_ n3_ n4_ n5_ n6_ n7_ n8_ n9_ n10_ n11_ n12_ n13_ n14_ n15_; clear hb hbox hg; have hnb169 := NB629_616.out; have hnc169 := NB616_629.out; have hnb170 := NB629_617.out; have hnc170 := NB617_629.out; have hnb171 := NB629_619.out; have hnc171 := NB619_629.out; have hcz172_0 : w168.cell? ⟨gb629, 0, none⟩ = some (.int .i64 0) := (blk_cell BK629.out 0).trans rfl; have hcz172_1 : w168.cell? ⟨gb629, 1, none⟩ = some (.int .i64 0) := (blk_cell BK629.out 1).trans rfl; have hcz172_2 : w168.cell? ⟨gb629, 2, none⟩ = some (.int .i64 0) := (blk_cell BK629.out 2).trans rfl; have hfz172_0 := blk_frozen BK629.out 0; have hfz172_1 := blk_frozen BK629.out 1; have hfz172_2 := blk_frozen BK629.out 2; have hnb173 := NB616_617.out; have hnc173 := NB617_616.out; have hnb174 := NB616_619.out; have hnc174 := NB619_616.out; have hcz175_0 : w168.cell? ⟨gb616, 0, none⟩ = some (.int .i64 a0_0) := (blk_cell BK616.out 0).trans rfl; have hcz175_1 : w168.cell? ⟨gb616, 1, none⟩ = some (.slice (some ad628) l0_1.length c0_1) := (blk_cell BK616.out 1).trans rfl; have hcz175_2 : w168.cell? ⟨gb616, 2, none⟩ = some (.slice A0_2 l0_2.length c0_2) := (blk_cell BK616.out 2).trans rfl; have hfz175_0 := blk_frozen BK616.out 0; have hfz175_1 := blk_frozen BK616.out 1; have hfz175_2 := blk_frozen BK616.out 2; obtain ⟨Ao176, co176, eo176⟩ := Kd.R_slice HO_7.out; subst eo176) | ((with_reducible refine gate_callee (f := 56) rfl ?_); refine goesL_ (some 49) rfl rfl Try.func56 (by kernel_rfl) rfl #[.slice Ao176 t625.length co176, .int .i64 (wrap64 (a0_0 + x39_2))] rfl qG ?_; (with_reducible refine (spec_l1Has.calls k2 _ _ t625 (wrap64 (a0_0 + x39_2)) false _ ?side1 ?side2 A39.out).mono ?_); (case side1 => refine (Kd.R_reads' (e := 3) (base := w.heap.size) (ok := fun k_ => some k_ ≠ (v622 : Value).ownBlock) (n := t625.length) (c := co176) ?_).2.2; exact (by (with_reducible repeat (first | apply Kd.R_alloc | apply Kd.R_drewN | apply Kd.R_drew)); exact (Kd.R_mono (Kd.R_far (p := ⟨gb629, 2, none⟩) (Kd.R_far (p := ⟨gb629, 1, none⟩) (Kd.R_far (p := ⟨gb629, 0, none⟩) (Kd.R_types HO_7.out BK629.out (by decide)) (fun _ hk => hk.2) (.int .i64 ((rd_T59 l0_1 x39_2).f0))) (fun _ hk => hk.2) (.int .i64 ((rd_T59 l0_1 x39_2).f1))) (fun _ hk => hk.2) (.int .i64 ((rd_T59 l0_1 x39_2).f2))) (fun _ h_ => h_.1)))); (case side2 => exact (Kd.R_reads' HO_7.out).2.1); rintro e w177 ⟨rfl, hb⟩; refine ⟨_, rfl, ?_⟩; have n0_ := Aside0.mk (Kd.R_below (by (with_reducible repeat (first | apply Kd.R_alloc | apply Kd.R_drewN | apply Kd.R_drew)); exact (Kd.R_mono (Kd.R_far (p := ⟨gb629, 2, none⟩) (Kd.R_far (p := ⟨gb629, 1, none⟩) (Kd.R_far (p := ⟨gb629, 0, none⟩) (Kd.R_types HO_5.out BK629.out (by decide)) (fun _ hk => hk.2) (.int .i64 ((rd_T59 l0_1 x39_2).f0))) (fun _ hk => hk.2) (.int .i64 ((rd_T59 l0_1 x39_2).f1))) (fun _ hk => hk.2) (.int .i64 ((rd_T59 l0_1 x39_2).f2))) (fun _ h_ => h_.1))) hb); have n1_ := Aside0.mk (Kd.R_below (by (with_reducible repeat (first | apply Kd.R_alloc | apply Kd.R_drewN | apply Kd.R_drew)); exact (Kd.R_mono (Kd.R_far (p := ⟨gb629, 2, none⟩) (Kd.R_far (p := ⟨gb629, 1, none⟩) (Kd.R_far (p := ⟨gb629, 0, none⟩) (Kd.R_types HO_7.out BK629.out (by decide)) (fun _ hk => hk.2) (.int .i64 ((rd_T59 l0_1 x39_2).f0))) (fun _ hk => hk.2) (.int .i64 ((rd_T59 l0_1 x39_2).f1))) (fun _ hk => hk.2) (.int .i64 ((rd_T59 l0_1 x39_2).f2))) (fun _ h_ => h_.1))) hb); have n2_ := Aside0.mk (Kd.R_below (by (with_reducible repeat (first | apply Kd.R_alloc | apply Kd.R_drewN | apply Kd.R_drew)); exact (Kd.R_mono (Kd.R_far (p := ⟨gb629, 2, none⟩) (Kd.R_far (p := ⟨gb629, 1, none⟩) (Kd.R_far (p := ⟨gb629, 0, none⟩) (Kd.R_mono HO_620001.out (fun k_ hk => (⟨hk, hk.2⟩ : _ ∧ k_ ≠ gb629))) (fun _ hk => hk.2) (.int .i64 ((rd_T59 l0_1 x39_2).f0))) (fun _ hk => hk.2) (.int .i64 ((rd_T59 l0_1 x39_2).f1))) (fun _ hk => hk.2) (.int .i64 ((rd_T59 l0_1 x39_2).f2))) (fun _ h_ => h_.1))) hb); have n3_ := Aside0.mk (blk_below (g := gb616) (o := .cells #[.int .i64 a0_0, .slice (some ad628) l0_1.length c0_1, .slice A0_2 l0_2.length c0_2] 30 (0, 0)) (qF BK616.out) hb); have n4_ := Aside0.mk (blk_below (g := gb617) (o := .cells #[.int .i64 0, .slice none 0 0, .slice none 0 0] 30 (0, 0)) (qF BK617.out) hb); have n5_ := Aside0.mk (blk_below (g := gb619) (o := .cells #[.int .i64 a0_0, u620001, .slice none 0 0] 30 (0, 0)) (qF BK619.out) hb); have n6_ := Aside0.mk (blk_below (g := gb629) (o := .cells #[.int .i64 ((rd_T59 l0_1 x39_2).f0), .int .i64 ((rd_T59 l0_1 x39_2).f1), .int .i64 ((rd_T59 l0_1 x39_2).f2)] 59 (0, 0)) (by (with_reducible repeat (first | refine blk_drewN ?_ _ | refine blk_drew ?_ | refine blk_alloc ?_ _)); refine blk_put (cs := #[.int .i64 ((rd_T59 l0_1 x39_2).f0), .int .i64 ((rd_T59 l0_1 x39_2).f1), .int .i64 0]) ?_ 2 _ rfl; refine blk_put (cs := #[.int .i64 ((rd_T59 l0_1 x39_2).f0), .int .i64 0, .int .i64 0]) ?_ 1 _ rfl; refine blk_put (cs := #[.int .i64 0, .int .i64 0, .int .i64 0]) ?_ 0 _ rfl; exact qK BK629.out) hb); have n7_ := Aside0.mk (below_step (qB) hb); clear HO_5; clear HO_7; clear HO_620001; clear BK616; clear BK617; clear BK619; clear BK629; clear HB; have HO_5 := n0_; have HO_7 := n1_; have HO_620001 := n2_; have BK616 := n3_; have BK617 := n4_; have BK619 := n5_; have BK629 := n6_; have HB := n7_; clear n0_ n1_ n2_ n3_ n4_ n5_ n6_ n7_; (try clear hb); (try clear hb2); (try clear hk); (try clear hi)))
             go_roundg k2
             case measure => have := HK1.out; have := HK2.out; omega
             case rel => exact ⟨(x5_2), (wrap64 (x39_2 + 1)), (x620001_2), (u620001), qS, H', ⟨by have := HK1.out; have := HK2.out; omega⟩, ⟨qR HO_5.out⟩, ⟨qR HO_7.out⟩, ⟨by (with_reducible repeat (first | apply Kd.R_alloc | apply Kd.R_drewN | apply Kd.R_drew)); exact Kd.R_mono HO_620001.out (fun _ hk => trivial)⟩, ⟨by exact qK BK616.out⟩, ⟨by exact qK BK617.out⟩, ⟨by exact qK BK619.out⟩, ⟨qB⟩⟩
           ·rw [if_neg c38] at H
            exact absurd H (by simp)
          ·rw [if_neg c37] at H
           exact absurd H (by simp)
         ·rw [if_neg c36] at H
          have c36b0 : decide (x39_2 < (l0_1.length : Int)) = false := decide_eq_false c36
          clear c36
          have H' := Aside0.mk H
          clear H
          have hnb178 := NB616_617.out
          have hnc178 := NB617_616.out
          have hnb179 := NB616_619.out
          have hnc179 := NB619_616.out
          have hcz180_0 : wr.cell? ⟨gb616, 0, none⟩ = some (.int .i64 a0_0) := (blk_cell BK616.out 0).trans rfl
          have hcz180_1 : wr.cell? ⟨gb616, 1, none⟩ = some (.slice A0_1 l0_1.length c0_1) := (blk_cell BK616.out 1).trans rfl
          have hcz180_2 : wr.cell? ⟨gb616, 2, none⟩ = some (.slice A0_2 l0_2.length c0_2) := (blk_cell BK616.out 2).trans rfl
          have hfz180_0 := blk_frozen BK616.out 0
          have hfz180_1 := blk_frozen BK616.out 1
          have hfz180_2 := blk_frozen BK616.out 2
          go_wp2
          go_loopg [87] k2 (fun kq v87 w' => ∃ (x87_3 : Int) (x620002_3 : List Int) (u620002 : Value), v87 = .int .i64 x87_3 ∧ Aside0 (spec_PruneCircuit.l2 kq x5_2 l0_2 (l0_2.length : Int) x87_3 a0_0 x620001_2 x620002_3 = some (r1, r2, r3, r4)) ∧ Aside0 (kq ≤ k2) ∧ Aside0 (Kd.R (Kd.int .i64) 3 w' w.heap.size (fun k_ => some k_ ≠ (u620002 : Value).ownBlock) v622 x5_2) ∧ Aside0 (Kd.R k59 59 w' w.heap.size (fun _ => True) u620001 x620001_2) ∧ Aside0 (Kd.R (Kd.int .i64) 3 w' w.heap.size (fun k_ => some k_ ≠ (v622 : Value).ownBlock) u620002 x620002_3) ∧ Aside0 (w'.heap[gb616]? = some (.cells #[.int .i64 a0_0, (.slice A0_1 l0_1.length c0_1), (.slice A0_2 l0_2.length c0_2)] 30 (0, 0))) ∧ Aside0 (w'.heap[gb617]? = some (.cells #[.int .i64 0, (.slice none 0 0), (.slice none 0 0)] 30 (0, 0))) ∧ Aside0 (w'.heap[gb619]? = some (.cells #[.int .i64 a0_0, u620001, u620002] 30 (0, 0))) ∧ Aside0 (Below w.heap.size w w'))
          case atStart => exact ⟨(0), (([] : List Int)), (.slice none 0 0), qS, H', ⟨Nat.le_refl _⟩, ⟨by (with_reducible repeat (first | apply Kd.R_alloc | apply Kd.R_drewN | apply Kd.R_drew)); exact Kd.R_mono HO_5.out (fun _ hk => (by simp [Value.ownBlock]))⟩, ⟨qR HO_620001.out⟩, ⟨by first | exact Kd.R_nil _ _ _ _ _ | exact Kd.N_nil _ _ _ _ _ | exact Kd.V_nil _ _ _ _ _ | exact Kd.Q_nil _ _ _ _ _ | exact Kd.S_nil _ _ _ _ _⟩, ⟨by exact qK BK616.out⟩, ⟨by exact qK BK617.out⟩, ⟨by exact qK BK619.out⟩, ⟨qB⟩⟩
          case round =>
           clear H'
           try clear c1
           try clear p1
           try clear q1
           try clear hx1
           try clear hf1
           try clear p2
           try clear c3
           try clear c4
           try clear c5
           try clear p6
           try clear q6
           try clear hx6
           try clear c10
           try clear c11
           try clear p11
           try clear q11
           try clear hx11
           try clear hf11
           try clear c12
           try clear c13
           try clear c14
           try clear p14
           try clear q14
           try clear hx14
           try clear hf14
           try clear c15
           try clear c16
           try clear c17
           try clear c36
           try clear c36b0
           try clear c37
           try clear c38
           try clear c40
           try clear c45
           try clear c56
           try clear p62
           try clear q62
           try clear hx62
           try clear p64
           try clear q64
           try clear hx64
           try clear c103
           try clear c104
           try clear c105
           try clear c105b0
           try clear c106
           try clear c107
           try clear c110
           try clear c110b0
           try clear c111
           try clear c111b0
           try clear p112
           try clear q112
           try clear hx112
           try clear hf112
           try clear c113
           try clear c115
           try clear c116
           try clear c117
           try clear c119
           try clear c120
           try clear c132
           try clear c140
           try clear c140b0
           try clear c141
           try clear c141b0
           try clear p142
           try clear q142
           try clear hx142
           try clear hf142
           try clear c143
           try clear c145
           try clear c146
           try clear c147
           try clear c149
           try clear c150
           try clear c162
           try clear c169
           try clear c170
           try clear c171
           try clear c173
           try clear c174
           try clear c178
           try clear c179
           try clear hcz118_0
           try clear hcz118_1
           try clear hcz118_2
           try clear hcz121_0
           try clear hcz121_1
           try clear hcz121_2
           try clear hcz124_0
           try clear hcz124_1
           try clear hcz124_2
           try clear hcz133_0
           try clear hcz133_1
           try clear hcz133_2
           try clear hcz134_0
           try clear hcz134_1
           try clear hcz134_2
           try clear hcz137_0
           try clear hcz137_1
           try clear hcz137_2
           try clear hcz148_0
           try clear hcz148_1
           try clear hcz148_2
           try clear hcz151_0
           try clear hcz151_1
           try clear hcz151_2
           try clear hcz154_0
           try clear hcz154_1
           try clear hcz154_2
           try clear hcz163_0
           try clear hcz163_1
           try clear hcz163_2
           try clear hcz164_0
           try clear hcz164_1
           try clear hcz164_2
           try clear hcz167_0
           try clear hcz167_1
           try clear hcz167_2
           try clear hcz172_0
           try clear hcz172_1
           try clear hcz172_2
           try clear hcz175_0
           try clear hcz175_1
           try clear hcz175_2
           try clear hcz180_0
           try clear hcz180_1
           try clear hcz180_2
           try clear hfz118_0
           try clear hfz118_1
           try clear hfz118_2
           try clear hfz121_0
           try clear hfz121_1
           try clear hfz121_2
           try clear hfz124_0
           try clear hfz124_1
           try clear hfz124_2
           try clear hfz133_0
           try clear hfz133_1
           try clear hfz133_2
           try clear hfz134_0
           try clear hfz134_1
           try clear hfz134_2
           try clear hfz137_0
           try clear hfz137_1
           try clear hfz137_2
           try clear hfz148_0
           try clear hfz148_1
           try clear hfz148_2
           try clear hfz151_0
           try clear hfz151_1
           try clear hfz151_2
           try clear hfz154_0
           try clear hfz154_1
           try clear hfz154_2
           try clear hfz163_0
           try clear hfz163_1
           try clear hfz163_2
           try clear hfz164_0
           try clear hfz164_1
           try clear hfz164_2
           try clear hfz167_0
           try clear hfz167_1
           try clear hfz167_2
           try clear hfz172_0
           try clear hfz172_1
           try clear hfz172_2
           try clear hfz175_0
           try clear hfz175_1
           try clear hfz175_2
           try clear hfz180_0
           try clear hfz180_1
           try clear hfz180_2
           try clear hx112_0
           try clear hx142_0
           try clear hx628_0
           try clear hx628_1
           try clear hx628_2
           try clear hx642_0
           try clear hx643_0
           try clear p112
           try clear p142
           try clear p628
           try clear p642
           try clear p643
           try clear q112
           try clear q142
           try clear q628
           try clear q642
           try clear q643
           obtain ⟨x87_3, x620002_3, u620002, rfl, HA, HK3, HO_5, HO_620001, HO_620002, BK616, BK617, BK619, HB⟩ := hrel
           cases gk with
           | zero => exact absurd HA.out (by simp [spec_PruneCircuit.l2])
           | succ k3 =>
            have H := HA.out
            clear HA
            simp only [spec_PruneCircuit.l2] at H
            by_cases c181 : x87_3 < (l0_2.length : Int)
            ·rw [if_pos c181] at H
             have c181b0 : decide (x87_3 < (l0_2.length : Int)) = true := decide_eq_true c181
             clear c181
             by_cases c182 : 0 ≤ x87_3
             ·rw [if_pos c182] at H
              have c182b0 : decide (0 ≤ x87_3) = true := decide_eq_true c182
              clear c182
              by_cases c183 : x87_3 < (l0_2.length : Int)
              ·rw [if_pos c183] at H
               have c183b0 : decide (x87_3 < (l0_2.length : Int)) = true := decide_eq_true c183
               clear c183
               by_cases c184 : 0 ≤ (rd l0_2 x87_3)
               ·rw [if_pos c184] at H
                have c184b0 : decide (0 ≤ (rd l0_2 x87_3)) = true := decide_eq_true c184
                clear c184
                by_cases c185 : (rd l0_2 x87_3) < (x5_2.length : Int)
                ·rw [if_pos c185] at H
                 have c185b0 : decide ((rd l0_2 x87_3) < (x5_2.length : Int)) = true := decide_eq_true c185
                 clear c185
                 by_cases c186 : x620002_3.length < 17592186044416
                 ·rw [if_pos c186] at H
                  have LMc186 := Aside0.mk c186
                  clear c186
                  obtain ⟨y656, hy656⟩ : ∃ y_ : List Int, y_ = (x620002_3 ++ [rd x5_2 (rd l0_2 x87_3)]) := ⟨_, rfl⟩
                  replace H : (spec_PruneCircuit.l2 k3 x5_2 l0_2 (l0_2.length : Int) (wrap64 (x87_3 + 1)) a0_0 x620001_2 y656) = some (r1, r2, r3, r4) := qY hy656 H
                  have Ny656 := Aside0.mk hy656
                  clear hy656
                  have H' := Aside0.mk H
                  clear H
                  have p654 : 0 ≤ (x87_3 : Int) := qD
                  have q654 : x87_3 < (l0_2.length : Int) := qD
                  obtain ⟨ad654, e654, hx654_0⟩ := Kd.at_int HR0_2.out x87_3 p654 q654
                  cases e654
                  replace hx654_0 := (HB.out.cell (World.block_lt_of_cell? w _ hx654_0)).trans hx654_0
                  replace p654 := eq_true p654
                  replace q654 := eq_true q654
                  try go_wp2
                  have n0_ := Aside0.mk (Kd.R_drew HO_5.out)
                  have n1_ := Aside0.mk (Kd.R_drew HO_620001.out)
                  have n2_ := Aside0.mk (Kd.R_drew HO_620002.out)
                  have n3_ := Aside0.mk (blk_drew BK616.out)
                  have n4_ := Aside0.mk (blk_drew BK617.out)
                  have n5_ := Aside0.mk (blk_drew BK619.out)
                  have n6_ := Aside0.mk (below_drew1 HB.out)
                  clear HO_5
                  clear HO_620001
                  clear HO_620002
                  clear BK616
                  clear BK617
                  clear BK619
                  clear HB
                  have HO_5 := n0_
                  have HO_620001 := n1_
                  have HO_620002 := n2_
                  have BK616 := n3_
                  have BK617 := n4_
                  have BK619 := n5_
                  have HB := n6_
                  clear n0_ n1_ n2_ n3_ n4_ n5_ n6_
                  obtain ⟨Ao188, co188, eo188⟩ := Kd.R_slice HO_5.out
                  (first | subst eo188 | (injection eo188 with f1_ f2_ f3_; have f4_ := f1_.symm; have f5_ := f3_.symm; clear f1_ f2_ f3_; subst f4_; subst f5_))
                  have p655 : 0 ≤ ((rd l0_2 x87_3) : Int) := qD
                  have q655 : (rd l0_2 x87_3) < (x5_2.length : Int) := qD
                  obtain ⟨ad655, e655, hx655_0⟩ := Kd.at_int (Kd.R_reads' HO_5.out).2.2 (rd l0_2 x87_3) p655 q655
                  cases e655
                  replace p655 := eq_true p655
                  replace q655 := eq_true q655
                  refine start_ (n := 10) (S := fun w' => w'.cell? ⟨gb619, 0, none⟩ = some (.int .i64 a0_0) ∧ w'.cell? ⟨gb619, 1, none⟩ = some (u620001) ∧ w'.cell? ⟨gb619, 2, none⟩ = some (u620002) ∧ w'.cell? (ad655.add ((rd l0_2 x87_3)).toNat) = some (.int .i64 (rd x5_2 (rd l0_2 x87_3)))) (ds := [7, 9]) #[false, false, false, false, false, false, false, false, false, false] (by kernel_rfl) rfl rfl ⟨(blk_cell BK619.out 0).trans rfl, (blk_cell BK619.out 1).trans rfl, (blk_cell BK619.out 2).trans rfl, hx655_0⟩ (fun hHeld => ?_); refine with_tabW spec_PruneCircuit.tab24 spec_PruneCircuit.bits24 (fun HT_ HW_ => ?_)
                  generalize wr.drew = w187 at HO_5 HO_620001 HO_620002 BK616 BK617 BK619 HB hx655_0 hHeld ⊢
                  refine pure_ (i := 0) (N := some 91) (v := ?_) (a' := ?_) #[true, false, false, false, false, false, false, false, false, false] rfl rfl (any_of HT_.out (by kernel_rfl)) (fun _ _ _ h => h) (Or.inl ⟨by rfl, ?_⟩) ?_ ?_
                  rotate_left
                  ·intro w'
                   go_simp
                   with_reducible rfl
                  rotate_left
                  ·simp only [Act.put, List.setIfInBounds_toArray, List.set_cons_zero, List.set_cons_succ, i64_w, i32_w]
                   rfl
                  refine pure_ (i := 2) (N := some 93) (v := ?_) (a' := ?_) #[true, false, true, false, false, false, false, false, false, false] rfl rfl (any_of HT_.out (by kernel_rfl)) (fun _ _ _ h => h) (Or.inl ⟨by rfl, ?_⟩) ?_ ?_
                  rotate_left
                  ·intro w'
                   go_simp
                   with_reducible rfl
                  rotate_left
                  ·simp only [Act.put, List.setIfInBounds_toArray, List.set_cons_zero, List.set_cons_succ, i64_w, i32_w]
                   rfl
                  refine pure_ (i := 3) (N := some 94) (v := ?_) (a' := ?_) #[true, false, true, true, false, false, false, false, false, false] rfl rfl (any_of HT_.out (by kernel_rfl)) (fun _ _ _ h => h) (Or.inl ⟨by rfl, ?_⟩) ?_ ?_
                  rotate_left
                  ·intro w'
                   go_simp
                   with_reducible rfl
                  rotate_left
                  ·simp only [Act.put, List.setIfInBounds_toArray, List.set_cons_zero, List.set_cons_succ, i64_w, i32_w]
                   rfl
                  refine pure_ (i := 4) (N := some 95) (v := ?_) (a' := ?_) #[true, false, true, true, true, false, false, false, false, false] rfl rfl (any_of HT_.out (by kernel_rfl)) (fun _ _ _ h => h) (Or.inl ⟨by rfl, ?_⟩) ?_ ?_
                  rotate_left
                  ·intro w'
                   go_simp
                   with_reducible rfl
                  rotate_left
                  ·simp only [Act.put, List.setIfInBounds_toArray, List.set_cons_zero, List.set_cons_succ, i64_w, i32_w]
                   rfl
                  refine take_ (i := 1) (N := some 92) (v := ?_) (a' := ?_) #[true, true, true, true, true, false, false, false, false, false] rfl rfl (take_ofW HT_.out HW_.out (by kernel_rfl)) (fun _ _ _ h => h) (Or.inl ⟨by rfl, ?_⟩) hHeld ?_ ?_
                  rotate_left
                  ·rintro w' ⟨s0, s1, s2, s3⟩
                   go_simp
                   with_reducible rfl
                  rotate_left
                  ·simp only [Act.put, List.setIfInBounds_toArray, List.set_cons_zero, List.set_cons_succ, i64_w, i32_w]
                   rfl
                  refine take_ (i := 5) (N := some 96) (v := ?_) (a' := ?_) #[true, true, true, true, true, true, false, false, false, false] rfl rfl (take_ofW HT_.out HW_.out (by kernel_rfl)) (fun _ _ _ h => h) (Or.inl ⟨by rfl, ?_⟩) hHeld ?_ ?_
                  rotate_left
                  ·rintro w' ⟨s0, s1, s2, s3⟩
                   go_simp
                   with_reducible rfl
                  rotate_left
                  ·simp only [Act.put, List.setIfInBounds_toArray, List.set_cons_zero, List.set_cons_succ, i64_w, i32_w]
                   rfl
                  refine one_ (i := 6) (N := some 97) #[true, true, true, true, true, true, true, false, false, false] rfl rfl (one_of HT_.out (by kernel_rfl)) (by decide) (fun K hK => ?_)
                  refine value_ (w1 := ?_) (v := ?_) (by rfl) rfl ?_ ?_
                  rotate_left 2
                  ·go_simp
                   constructor
                   ·rfl
                   ·rfl
                  refine hK.out _ _ ⟨(blk_cell (blk_alloc BK619.out _) 0).trans rfl, (blk_cell (blk_alloc BK619.out _) 1).trans rfl, (blk_cell (blk_alloc BK619.out _) 2).trans rfl, (World.cell?_alloc_lt _ _ _ (World.block_lt_of_cell? _ _ (hHeld.2.2.2))).trans (hHeld.2.2.2)⟩ (fun hHeld => ?_)
                  clear hK K
                  refine norm_ (a' := ?_) ?_ ?_
                  rotate_left
                  ·show Act.put _ (some 97) _ = _
                   simp only [Act.put, List.setIfInBounds_toArray, List.set_cons_zero, List.set_cons_succ, i64_w, i32_w]
                   rfl
                  refine last_ (i := 7) (N := some 98) #[true, true, true, true, true, true, true, true, false, false] rfl rfl (one_of HT_.out (by kernel_rfl)) (by decide) (fun K hK => ?_)
                  refine Kd.R_append_step (Kd.int .i64) (w0 := w) w.heap.size (by rfl) (.tmp 92) (.tmp 97) 23 3 (.int .i64 0) 8 rfl Try.underlying23 info3 rfl (by decide) (by omega) u620002 x620002_3 (rd x5_2 (rd l0_2 x87_3)) [.int .i64 (rd x5_2 (rd l0_2 x87_3))] (fun k_ => some k_ ≠ (.slice (some ad655) x5_2.length co188 : Value).ownBlock) (fun _ => False) rfl rfl ?aP (fun _ hk => hk.elim) ?aF ?aO ?aB ?aS ?aL ?_
                  (case aP => exact rfl)
                  (case aB => exact (qB))
                  (case aF => exact (fun k_ hk => Kd.fresh' (Kd.R_lt (qR HO_5.out)) k_ hk))
                  (case aO => exact (qR HO_620002.out))
                  (case aS => exact (below_size (qB)))
                  (case aL => have := LMc186.out; omega)
                  intro v657 w189 ho hb hg hat
                  rw [← Ny656.out] at ho
                  have n0_ := Aside0.mk (Kd.R_after (ok := (fun _ => True)) (by (with_reducible repeat (first | apply Kd.R_alloc | apply Kd.R_drewN | apply Kd.R_drew)); exact Kd.R_mono HO_5.out (fun _ hk => ⟨trivial, hk⟩)) hg hat)
                  have n1_ := Aside0.mk (Kd.R_over' (qR HO_620001.out) (Kd.R_typed (qR HO_620002.out)) (by decide) hg)
                  have n2_ := Aside0.mk (blk_grown (g := gb616) (o := .cells #[.int .i64 a0_0, .slice A0_1 l0_1.length c0_1, .slice (some ad654) l0_2.length c0_2] 30 (0, 0)) (qK BK616.out) hg (Kd.R_ne HO_620002.out BK616.out (by decide)))
                  have n3_ := Aside0.mk (blk_grown (g := gb617) (o := .cells #[.int .i64 0, .slice none 0 0, .slice none 0 0] 30 (0, 0)) (qK BK617.out) hg (Kd.R_ne HO_620002.out BK617.out (by decide)))
                  have n4_ := Aside0.mk (blk_grown (g := gb619) (o := .cells #[.int .i64 a0_0, u620001, u620002] 30 (0, 0)) (qK BK619.out) hg (Kd.R_ne HO_620002.out BK619.out (by decide)))
                  have n5_ := Aside0.mk (hb)
                  have n6_ := Aside0.mk (ho)
                  clear HO_5
                  clear HO_620001
                  clear BK616
                  clear BK617
                  clear BK619
                  clear HB
                  clear HO_620002
                  have HO_5 := n0_
                  have HO_620001 := n1_
                  have BK616 := n2_
                  have BK617 := n3_
                  have BK619 := n4_
                  have HB := n5_
                  have HO658 := n6_
                  clear n0_ n1_ n2_ n3_ n4_ n5_ n6_
                  clear ho hb hg hat
                  obtain ⟨Ao190, co190, eo190⟩ := Kd.R_slice HO658.out
                  (first | subst eo190 | (injection eo190 with f1_ f2_ f3_; have f4_ := f1_.symm; have f5_ := f3_.symm; clear f1_ f2_ f3_; subst f4_; subst f5_))
                  refine hK.out _ _ ?_
                  clear hK K
                  refine norm_ (a' := ?_) ?_ ?_
                  rotate_left
                  ·show Act.put _ (some 98) _ = _
                   simp only [Act.put, List.setIfInBounds_toArray, List.set_cons_zero, List.set_cons_succ, i64_w, i32_w]
                   rfl
                  refine pure_ (i := 8) (N := some 99) (v := ?_) (a' := ?_) #[true, true, true, true, true, true, true, true, true, false] rfl rfl (any_of HT_.out (by kernel_rfl)) (fun _ _ _ h => h) (Or.inl ⟨by rfl, ?_⟩) ?_ ?_
                  rotate_left
                  ·intro w'
                   go_simp
                   with_reducible rfl
                  rotate_left
                  ·simp only [Act.put, List.setIfInBounds_toArray, List.set_cons_zero, List.set_cons_succ, i64_w, i32_w]
                   rfl
                  refine last_ (i := 9) (N := none) #[true, true, true, true, true, true, true, true, true, true] rfl rfl (one_of HT_.out (by kernel_rfl)) (by decide) (fun K hK => ?_)
                  have hs191 : w189.cell? ⟨gb619, 2, none⟩ = some (u620002) := (blk_cell BK619.out 2).trans rfl
                  have hfs191 := blk_frozen BK619.out 2
                  have hns191_0 := NB616_619.out
                  have hns191_1 := NB617_619.out
                  have hms191_0 := NB619_616.out
                  have hms191_1 := NB619_617.out
                  refine skip_ (w1 := ?_) (by rfl) rfl ?_ ?_
                  rotate_left
                  ·go_simp
                   rfl
                  refine hK.out _ _ ?_
                  clear hK K
                  refine done_ (done_of HT_.out (by kernel_rfl)) ?_
                  try go_wp2
                  go_roundg k3
                  case measure => have := HK1.out; have := HK2.out; have := HK3.out; omega
                  case rel => exact ⟨(wrap64 (x87_3 + 1)), (y656), (.slice Ao190 y656.length co190), qS, H', ⟨by have := HK1.out; have := HK2.out; have := HK3.out; omega⟩, ⟨by (with_reducible repeat (first | apply Kd.R_alloc | apply Kd.R_drewN | apply Kd.R_drew)); exact Kd.R_mono (Kd.R_far (p := ⟨gb619, 2, none⟩) (Kd.R_types HO_5.out BK619.out (by decide)) (fun _ hk => hk.2) (.slice Ao190 y656.length co190)) (fun _ hk => hk.1.2)⟩, ⟨by (with_reducible repeat (first | apply Kd.R_alloc | apply Kd.R_drewN | apply Kd.R_drew)); exact Kd.R_mono (Kd.R_far (p := ⟨gb619, 2, none⟩) (Kd.R_types HO_620001.out BK619.out (by decide)) (fun _ hk => hk.2) (.slice Ao190 y656.length co190)) (fun _ hk => trivial)⟩, ⟨by (with_reducible repeat (first | apply Kd.R_alloc | apply Kd.R_drewN | apply Kd.R_drew)); exact Kd.R_mono (Kd.R_far (p := ⟨gb619, 2, none⟩) (Kd.R_types HO658.out BK619.out (by decide)) (fun _ hk => hk.2) (.slice Ao190 y656.length co190)) (fun _ hk => hk.1)⟩, ⟨by (with_reducible repeat (first | refine blk_drewN ?_ _ | refine blk_drew ?_ | refine blk_alloc ?_ _)); refine blk_far ?_ NB616_619.out _; exact qK BK616.out⟩, ⟨by (with_reducible repeat (first | refine blk_drewN ?_ _ | refine blk_drew ?_ | refine blk_alloc ?_ _)); refine blk_far ?_ NB617_619.out _; exact qK BK617.out⟩, ⟨by (with_reducible repeat (first | refine blk_drewN ?_ _ | refine blk_drew ?_ | refine blk_alloc ?_ _)); refine blk_put (cs := #[.int .i64 a0_0, u620001, u620002]) ?_ 2 _ rfl; exact qK BK619.out⟩, ⟨qB⟩⟩
                 ·rw [if_neg c186] at H
                  exact absurd H (by simp)
                ·rw [if_neg c185] at H
                 exact absurd H (by simp)
               ·rw [if_neg c184] at H
                exact absurd H (by simp)
              ·rw [if_neg c183] at H
               exact absurd H (by simp)
             ·rw [if_neg c182] at H
              exact absurd H (by simp)
            ·rw [if_neg c181] at H
             have c181b0 : decide (x87_3 < (l0_2.length : Int)) = false := decide_eq_false c181
             clear c181
             simp only [Option.some.injEq, Prod.mk.injEq] at H
             obtain ⟨rfl, rfl, rfl, rfl⟩ := H
             have hnb192 := NB619_616.out
             have hnc192 := NB616_619.out
             have hnb193 := NB619_617.out
             have hnc193 := NB617_619.out
             have hcz194_0 : wr.cell? ⟨gb619, 0, none⟩ = some (.int .i64 a0_0) := (blk_cell BK619.out 0).trans rfl
             have hcz194_1 : wr.cell? ⟨gb619, 1, none⟩ = some (u620001) := (blk_cell BK619.out 1).trans rfl
             have hcz194_2 : wr.cell? ⟨gb619, 2, none⟩ = some (u620002) := (blk_cell BK619.out 2).trans rfl
             have hfz194_0 := blk_frozen BK619.out 0
             have hfz194_1 := blk_frozen BK619.out 1
             have hfz194_2 := blk_frozen BK619.out 2
             have hnb195 := NB617_616.out
             have hnc195 := NB616_617.out
             have hcz196_0 : wr.cell? ⟨gb617, 0, none⟩ = some (.int .i64 0) := (blk_cell BK617.out 0).trans rfl
             have hcz196_1 : wr.cell? ⟨gb617, 1, none⟩ = some (.slice none 0 0) := (blk_cell BK617.out 1).trans rfl
             have hcz196_2 : wr.cell? ⟨gb617, 2, none⟩ = some (.slice none 0 0) := (blk_cell BK617.out 2).trans rfl
             have hfz196_0 := blk_frozen BK617.out 0
             have hfz196_1 := blk_frozen BK617.out 1
             have hfz196_2 := blk_frozen BK617.out 2
             obtain ⟨Ao197, co197, eo197⟩ := Kd.R_slice HO_620001.out
             subst eo197
             obtain ⟨Ao198, co198, eo198⟩ := Kd.R_slice HO_620002.out
             subst eo198
             go_wp2
             refine bodyPost_ret (results_ct rfl _ _ gb617 30 #[.int .i64 a0_0, .slice Ao197 x620001_2.length co197, .slice Ao198 x620002_3.length co198] (0, 0) _ rfl (by (with_reducible repeat (first | refine blk_drewN ?_ _ | refine blk_drew ?_ | refine blk_alloc ?_ _)); refine blk_put (cs := #[.int .i64 a0_0, .slice Ao197 x620001_2.length co197, .slice none 0 0]) ?_ 2 _ rfl; refine blk_put (cs := #[.int .i64 a0_0, .slice none 0 0, .slice none 0 0]) ?_ 1 _ rfl; refine blk_put (cs := #[.int .i64 0, .slice none 0 0, .slice none 0 0]) ?_ 0 _ rfl; exact qK BK617.out) Try.underlying30 rfl (by kernel_rfl)) rfl ?_
             exact ⟨_, _, qE, by (with_reducible repeat (first | apply Kd.R_alloc | apply Kd.R_drewN | apply Kd.R_drew)); exact Kd.R_mono (Kd.R_far (p := ⟨gb617, 2, none⟩) (Kd.R_far (p := ⟨gb617, 1, none⟩) (Kd.R_far (p := ⟨gb617, 0, none⟩) (Kd.R_types HO_620001.out BK617.out (by decide)) (fun _ hk => hk.2) (.int .i64 a0_0)) (fun _ hk => hk.2) (.slice Ao197 x620001_2.length co197)) (fun _ hk => hk.2) (.slice Ao198 x620002_3.length co198)) (fun _ hk => trivial), by (with_reducible repeat (first | apply Kd.R_alloc | apply Kd.R_drewN | apply Kd.R_drew)); exact Kd.R_mono (Kd.R_far (p := ⟨gb617, 2, none⟩) (Kd.R_far (p := ⟨gb617, 1, none⟩) (Kd.R_far (p := ⟨gb617, 0, none⟩) (Kd.R_types HO_620002.out BK617.out (by decide)) (fun _ hk => hk.2) (.int .i64 a0_0)) (fun _ hk => hk.2) (.slice Ao197 x620001_2.length co197)) (fun _ hk => hk.2) (.slice Ao198 x620002_3.length co198)) (fun _ hk => trivial), qB⟩
   ·rw [if_neg c6] at H
    exact absurd H (by simp)
  ·rw [if_neg c5] at H
   exact absurd H (by simp)
 ·replace c3 := Bool.eq_false_iff.mpr c3
  subst c3
  have H1 : (some (0, ([] : List (S59)), ([] : List Int), false)) = some (r1, r2, r3, r4) := by rw [if_neg (show ¬ (false = true) by decide)] at H; exact H
  clear H
  have H := H1
  clear H1
  simp only [Option.some.injEq, Prod.mk.injEq] at H
  obtain ⟨rfl, rfl, rfl, rfl⟩ := H
  go_enter Try.func30, Try.ntmps30
  go_wp2_with (first | ((with_reducible refine gate_dst (N := 1) rfl ?_); refine box_event ?hg (N := 1) ?hd (cs := #[.int .i64 a0_0, .slice A0_1 l0_1.length c0_1, .slice A0_2 l0_2.length c0_2]) (t := 30) ?hr ?_; (case hd => rfl); (case hg => rfl); (case hr => first | (go_simp; done) | (go_simp; rfl)); intro gb616 hg w199 hbox hb; have n0_ := Aside0.mk (below_step (qB) hb); have n1_ := Aside0.mk (hbox); have n2_ := Aside0.mk ((by rw [hg]; exact (below_size (qB)) : w.heap.size ≤ gb616)); have n3_ := Aside0.mk ((by rw [hg]; exact (below_size (qB)) : w.heap.size ≤ gb616)); clear HB; have HB := n0_; have BK616 := n1_; have GW616 := n2_; have GE616 := n3_; clear n0_ n1_ n2_ n3_; clear hb hbox hg) | ((with_reducible refine gate_dst (N := 2) rfl ?_); refine box_event ?hg (N := 2) ?hd (cs := #[.int .i64 0, .slice none 0 0, .slice none 0 0]) (t := 30) ?hr ?_; (case hd => rfl); (case hg => rfl); (case hr => first | (go_simp; done) | (go_simp; rfl)); intro gb617 hg w200 hbox hb; have n0_ := Aside0.mk (blk_below (g := gb616) (o := .cells #[.int .i64 a0_0, .slice A0_1 l0_1.length c0_1, .slice A0_2 l0_2.length c0_2] 30 (0, 0)) (qK BK616.out) hb); have n1_ := Aside0.mk (below_step (qB) hb); have n2_ := Aside0.mk (hbox); have n3_ := Aside0.mk ((by rw [hg]; exact (below_size (qB)) : w.heap.size ≤ gb617)); have n4_ := Aside0.mk ((by rw [hg]; exact (below_size (qB)) : w.heap.size ≤ gb617)); have n5_ := Aside0.mk ((by rw [hg]; exact Nat.ne_of_lt (blk_lt (g := gb616) (o := .cells #[.int .i64 a0_0, .slice A0_1 l0_1.length c0_1, .slice A0_2 l0_2.length c0_2] 30 (0, 0)) (qK BK616.out)) : gb616 ≠ gb617)); have n6_ := Aside0.mk ((by rw [hg]; exact Nat.ne_of_gt (blk_lt (g := gb616) (o := .cells #[.int .i64 a0_0, .slice A0_1 l0_1.length c0_1, .slice A0_2 l0_2.length c0_2] 30 (0, 0)) (qK BK616.out)) : gb617 ≠ gb616)); clear BK616; clear HB; have BK616 := n0_; have HB := n1_; have BK617 := n2_; have GW617 := n3_; have GE617 := n4_; have NB616_617 := n5_; have NB617_616 := n6_; clear n0_ n1_ n2_ n3_ n4_ n5_ n6_; clear hb hbox hg; have hnb201 := NB616_617.out; have hnc201 := NB617_616.out; have hcz202_0 : w200.cell? ⟨gb616, 0, none⟩ = some (.int .i64 a0_0) := (blk_cell BK616.out 0).trans rfl; have hcz202_1 : w200.cell? ⟨gb616, 1, none⟩ = some (.slice A0_1 l0_1.length c0_1) := (blk_cell BK616.out 1).trans rfl; have hcz202_2 : w200.cell? ⟨gb616, 2, none⟩ = some (.slice A0_2 l0_2.length c0_2) := (blk_cell BK616.out 2).trans rfl; have hfz202_0 := blk_frozen BK616.out 0; have hfz202_1 := blk_frozen BK616.out 1; have hfz202_2 := blk_frozen BK616.out 2) | ((with_reducible refine gate_callee (f := 12) rfl ?_); refine goesL_ (some 13) rfl rfl Try.func12 (by kernel_rfl) rfl #[.agg #[.int .i64 a0_0, .slice A0_1 l0_1.length c0_1, .slice A0_2 l0_2.length c0_2]] rfl qG ?_; (with_reducible refine (spec_GoodCircuit.calls k a0_0 _ _ l0_1 _ _ l0_2 false _ ?side1 ?side2 ?side3 ?side4 A2.out).mono ?_); (case side1 => exact qC (Kd.C_below HR0_1.out HB.out)); (case side2 => exact HC0_1.out); (case side3 => exact qC (Kd.C_below HR0_2.out HB.out)); (case side4 => exact HC0_2.out); rintro e w203 ⟨rfl, hb⟩; refine ⟨_, rfl, ?_⟩; have n0_ := Aside0.mk (blk_below (g := gb616) (o := .cells #[.int .i64 a0_0, .slice A0_1 l0_1.length c0_1, .slice A0_2 l0_2.length c0_2] 30 (0, 0)) (qK BK616.out) hb); have n1_ := Aside0.mk (blk_below (g := gb617) (o := .cells #[.int .i64 0, .slice none 0 0, .slice none 0 0] 30 (0, 0)) (qK BK617.out) hb); have n2_ := Aside0.mk (below_step (qB) hb); clear BK616; clear BK617; clear HB; have BK616 := n0_; have BK617 := n1_; have HB := n2_; clear n0_ n1_ n2_; (try clear hb); (try clear hb2); (try clear hk); (try clear hi); have hcz204_0 : w203.cell? ⟨gb617, 0, none⟩ = some (.int .i64 0) := (blk_cell BK617.out 0).trans rfl; have hcz204_1 : w203.cell? ⟨gb617, 1, none⟩ = some (.slice none 0 0) := (blk_cell BK617.out 1).trans rfl; have hcz204_2 : w203.cell? ⟨gb617, 2, none⟩ = some (.slice none 0 0) := (blk_cell BK617.out 2).trans rfl; have hfz204_0 := blk_frozen BK617.out 0; have hfz204_1 := blk_frozen BK617.out 1; have hfz204_2 := blk_frozen BK617.out 2))
  refine bodyPost_ret (results_ct rfl _ _ gb617 30 #[.int .i64 0, .slice none 0 0, .slice none 0 0] (0, 0) _ rfl (by (with_reducible repeat (first | refine blk_drewN ?_ _ | refine blk_drew ?_ | refine blk_alloc ?_ _)); refine blk_put (cs := #[.int .i64 0, .slice none 0 0, .slice none 0 0]) ?_ 2 _ rfl; refine blk_put (cs := #[.int .i64 0, .slice none 0 0, .slice none 0 0]) ?_ 1 _ rfl; refine blk_put (cs := #[.int .i64 0, .slice none 0 0, .slice none 0 0]) ?_ 0 _ rfl; exact qK BK617.out) Try.underlying30 rfl (by kernel_rfl)) rfl ?_
  exact ⟨_, _, qE, by first | exact Kd.R_nil _ _ _ _ _ | exact Kd.N_nil _ _ _ _ _ | exact Kd.V_nil _ _ _ _ _ | exact Kd.Q_nil _ _ _ _ _ | exact Kd.S_nil _ _ _ _ _, by first | exact Kd.R_nil _ _ _ _ _ | exact Kd.N_nil _ _ _ _ _ | exact Kd.V_nil _ _ _ _ _ | exact Kd.Q_nil _ _ _ _ _ | exact Kd.S_nil _ _ _ _ _, qB⟩

end Go.Proofs.Ytimkjhdopncimaa.X
