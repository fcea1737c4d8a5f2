/- Go functions as Lean functions, each with the proof that its call comes to just its answer. Conditions: the arguments are of their kinds. -/
import Derived.Test.YtckgeanmljmhfaaX0
import Derived.Test.YtckgeanmljmhfaaX43
import Derived.Test.YtckgeanmljmhfaaX61
import Derived.Test.YtckgeanmljmhfaaX59
import Derived.Test.YtckgeanmljmhfaaX1
import Derived.Test.YtckgeanmljmhfaaX18
import Derived.Test.YtckgeanmljmhfaaX54
import Derived.Test.YtckgeanmljmhfaaXO
namespace Go.Proofs.Ytckgeanmljmhfaa.X
open Go.RowKit Go.Proofs.YtckgeanmljmhfaaW.PrintWords Go.Proofs.YtckgeanmljmhfaaW.PrintLast Go.Proofs.YtckgeanmljmhfaaW.PrintMore
attribute [local go_sem] max2_int min2_int max_two min_two max_three min_three max_four min_four   -- for this text's walks alone
set_option linter.unusedVariables false
set_option linter.unusedSimpArgs false

/-! ### impl_AllWires: function 85 -/
def impl_AllWires.f (k : Nat) (a0_0 : Int) (l0_1 : List (S93)) (l0_2 : List Int) (l1 : List Bool) : Option (List Bool × Bool) := (impl_GoodCircuit.f k a0_0 l0_1 l0_2).bind fun t500 => (if t500 = true then (if (l1.length : Int) = a0_0 then ((impl_Circuit_allWires.f k a0_0 l0_1 l0_2 l1).bind fun t501 => (some (t501, true))) else (some (([] : List Bool), false))) else (some (([] : List Bool), false)))
theorem impl_AllWires.mono : ∀ a0 a1 a2 a3 k, LeO (impl_AllWires.f k a0 a1 a2 a3) (impl_AllWires.f (k + 1) a0 a1 a2 a3) := by
 intro a0 a1 a2 a3 k
 unfold impl_AllWires.f
 repeat' first
   | (with_reducible exact impl_Circuit_allWires.mono _ _ _ _ _)
   | (with_reducible exact impl_GoodCircuit.mono _ _ _ _)
   | (with_reducible first | exact LeO.refl _ | exact LeO.none _ | refine LeO.ite ?_ ?_ | refine LeO.bind ?_ (fun _ => ?_))
   | exact impl_Circuit_allWires.mono _ _ _ _ _
   | exact impl_GoodCircuit.mono _ _ _ _
   | exact LeO.none _ | refine LeO.ite ?_ ?_ | refine LeO.bind ?_ (fun _ => ?_)
set_option maxHeartbeats 8000000 in
set_option maxRecDepth 100000 in
theorem impl_AllWires.calls (k : Nat) (a0_0 : Int) (A0_1 : Option Addr) (c0_1 : Nat) (l0_1 : List (S93)) (A0_2 : Option Addr) (c0_2 : Nat) (l0_2 : List Int) (A1 : Option Addr) (c1 : Nat) (l1 : List Bool) (r1 : List Bool) (r2 : Bool) (w : World) (hr0_1 : Kd.C k93 w A0_1 l0_1.length l0_1) (hc0_1 : l0_1.length ≤ c0_1) (hr0_2 : Kd.C (Kd.int .i64) w A0_2 l0_2.length l0_2) (hc0_2 : l0_2.length ≤ c0_2) (hr1 : Kd.C Kd.bool w A1 l1.length l1) (hc1 : l1.length ≤ c1) (h : impl_AllWires.f k a0_0 l0_1 l0_2 l1 = some (r1, r2)) :
  Calls Try.prog 85 #[.agg #[.int .i64 a0_0, .slice A0_1 l0_1.length c0_1, .slice A0_2 l0_2.length c0_2], .slice A1 l1.length c1] w fun e w' => ∃ v0_ : Value, e = .returned (.tuple #[v0_, .bool r2]) ∧ Kd.R Kd.bool 4 w' w.heap.size (fun _ => True) v0_ r1 ∧ Below w.heap.size w w' := by
 have hu27 := Try.underlying27
 have HR0_1 := Aside0.mk hr0_1
 have HC0_1 := Aside0.mk hc0_1
 clear hr0_1 hc0_1
 have HR0_2 := Aside0.mk hr0_2
 have HC0_2 := Aside0.mk hc0_2
 clear hr0_2 hc0_2
 have HR1 := Aside0.mk hr1
 have HC1 := Aside0.mk hc1
 clear hr1 hc1
 have HB := Aside0.mk (Below.refl w.heap.size w)
 have H : ((impl_GoodCircuit.f k a0_0 l0_1 l0_2).bind fun t500 => (if t500 = true then (if (l1.length : Int) = a0_0 then ((impl_Circuit_allWires.f k a0_0 l0_1 l0_2 l1).bind fun t501 => (some (t501, true))) else (some (([] : List Bool), false))) else (some (([] : List Bool), false)))) = some (r1, r2) := h
 clear h
 replace H := Option.bind_eq_some_iff.mp H
 obtain ⟨t500, A30, H⟩ := H
 replace H : (if t500 = true then (if (l1.length : Int) = a0_0 then ((impl_Circuit_allWires.f k a0_0 l0_1 l0_2 l1).bind fun t501 => (some (t501, true))) else (some (([] : List Bool), false))) else (some (([] : List Bool), false))) = some (r1, r2) := H
 have A3 := Aside0.mk A30
 clear A30
 by_cases c4 : t500 = true
 ·subst c4
  have H1 : (if (l1.length : Int) = a0_0 then ((impl_Circuit_allWires.f k a0_0 l0_1 l0_2 l1).bind fun t501 => (some (t501, true))) else (some (([] : List Bool), false))) = some (r1, r2) := by rw [if_pos rfl] at H; exact H
  clear H
  have H := H1
  clear H1
  by_cases c5 : (l1.length : Int) = a0_0
  ·rw [if_pos c5] at H
   have c5b0 : ((l1.length : Int) == a0_0) = true := beq_iff_eq.mpr c5
   have c5b1 : ((l1.length : Int) != a0_0) = false := bne_eq_false_iff_eq.mpr c5
   clear c5
   replace H := Option.bind_eq_some_iff.mp H
   obtain ⟨t501, A60, H⟩ := H
   replace H : (some (t501, true)) = some (r1, r2) := H
   have A6 := Aside0.mk A60
   clear A60
   simp only [Option.some.injEq, Prod.mk.injEq] at H
   obtain ⟨rfl, rfl⟩ := H
   go_enter Try.func85, Try.ntmps85
   go_wp2_with (first | ((with_reducible refine gate_dst (N := 2) rfl ?_); (try (refine gate_guard (by rfl) ?_; dsimp only)); refine box_event ?hg (N := 2) ?hd (cs := #[.int .i64 a0_0, .slice A0_1 l0_1.length c0_1, .slice A0_2 l0_2.length c0_2]) (t := 27) ?hr ?_; (case hd => rfl); (case hg => rfl); (case hr => first | (go_simp; done) | (go_simp; rfl)); intro gb499 hg w7 hbox hb; have n0_ := Aside0.mk (below_step (qB) hb); have n1_ := Aside0.mk (hbox); have n2_ := Aside0.mk ((by rw [hg]; exact (below_size (qB)) : w.heap.size ≤ gb499)); have n3_ := Aside0.mk ((by rw [hg]; exact (below_size (qB)) : w.heap.size ≤ gb499)); clear HB; have HB := n0_; have BK499 := n1_; have GW499 := n2_; have GE499 := n3_; clear n0_ n1_ n2_ n3_; clear hb hbox hg; have hcz8_0 : w7.cell? ⟨gb499, 0, none⟩ = some (.int .i64 a0_0) := (blk_cell BK499.out 0).trans rfl; have hcz8_1 : w7.cell? ⟨gb499, 1, none⟩ = some (.slice A0_1 l0_1.length c0_1) := (blk_cell BK499.out 1).trans rfl; have hcz8_2 : w7.cell? ⟨gb499, 2, none⟩ = some (.slice A0_2 l0_2.length c0_2) := (blk_cell BK499.out 2).trans rfl; have hfz8_0 := blk_frozen BK499.out 0; have hfz8_1 := blk_frozen BK499.out 1; have hfz8_2 := blk_frozen BK499.out 2) | ((with_reducible refine gate_callee (f := 42) rfl ?_); refine goesL_ (some 7) rfl rfl Try.func42 (by kernel_rfl) rfl #[.agg #[.int .i64 a0_0, .slice A0_1 l0_1.length c0_1, .slice A0_2 l0_2.length c0_2]] rfl qG ?_; (with_reducible refine (impl_GoodCircuit.calls k a0_0 _ _ l0_1 _ _ l0_2 true _ ?side1 ?side2 ?side3 ?side4 A3.out).mono ?_); (case side1 => exact qC (Kd.C_below HR0_1.out HB.out)); (case side2 => exact HC0_1.out); (case side3 => exact qC (Kd.C_below HR0_2.out HB.out)); (case side4 => exact HC0_2.out); rintro e w9 ⟨rfl, hb⟩; refine ⟨_, rfl, ?_⟩; have n0_ := Aside0.mk (blk_below (g := gb499) (o := .cells #[.int .i64 a0_0, .slice A0_1 l0_1.length c0_1, .slice A0_2 l0_2.length c0_2] 27 (0, 0)) (qK BK499.out) hb); have n1_ := Aside0.mk (below_step (qB) hb); clear BK499; clear HB; have BK499 := n0_; have HB := n1_; clear n0_ n1_; (try clear hb); (try clear hb2); (try clear hk); (try clear hi); have hcz10_0 : w9.cell? ⟨gb499, 0, none⟩ = some (.int .i64 a0_0) := (blk_cell BK499.out 0).trans rfl; have hcz10_1 : w9.cell? ⟨gb499, 1, none⟩ = some (.slice A0_1 l0_1.length c0_1) := (blk_cell BK499.out 1).trans rfl; have hcz10_2 : w9.cell? ⟨gb499, 2, none⟩ = some (.slice A0_2 l0_2.length c0_2) := (blk_cell BK499.out 2).trans rfl; have hfz10_0 := blk_frozen BK499.out 0; have hfz10_1 := blk_frozen BK499.out 1; have hfz10_2 := blk_frozen BK499.out 2) | ((with_reducible refine gate_callee (f := 112) rfl ?_); refine goesL_ (some 18) rfl rfl Try.func112 (by kernel_rfl) rfl #[.agg #[.int .i64 a0_0, .slice A0_1 l0_1.length c0_1, .slice A0_2 l0_2.length c0_2], .slice A1 l1.length c1] rfl qG ?_; (with_reducible refine (impl_Circuit_allWires.calls k a0_0 _ _ l0_1 _ _ l0_2 _ _ l1 t501 _ ?side1 ?side2 ?side3 ?side4 ?side5 ?side6 A6.out).mono ?_); (case side1 => exact qC (Kd.C_below HR0_1.out HB.out)); (case side2 => exact HC0_1.out); (case side3 => exact qC (Kd.C_below HR0_2.out HB.out)); (case side4 => exact HC0_2.out); (case side5 => exact qC (Kd.C_below HR1.out HB.out)); (case side6 => exact HC1.out); rintro e w11 ⟨v502, rfl, ho0, hb⟩; refine ⟨_, rfl, ?_⟩; have n0_ := Aside0.mk (Kd.R_lower ho0 (below_size (qB))); have n1_ := Aside0.mk (blk_below (g := gb499) (o := .cells #[.int .i64 a0_0, .slice A0_1 l0_1.length c0_1, .slice A0_2 l0_2.length c0_2] 27 (0, 0)) (qK BK499.out) hb); have n2_ := Aside0.mk (below_step (qB) hb); clear BK499; clear HB; have HO503 := n0_; have BK499 := n1_; have HB := n2_; clear n0_ n1_ n2_; (try clear hb); (try clear hb2); (try clear hk); (try clear hi); (try clear ho0)))
   go_ret2
   exact ⟨_, qE, qR HO503.out, qB⟩
  ·rw [if_neg c5] at H
   have c5b0 : ((l1.length : Int) == a0_0) = false := beq_eq_false_iff_ne.mpr c5
   have c5b1 : ((l1.length : Int) != a0_0) = true := bne_iff_ne.mpr c5
   simp only [Option.some.injEq, Prod.mk.injEq] at H
   obtain ⟨rfl, rfl⟩ := H
   go_enter Try.func85, Try.ntmps85
   go_wp2_with (first | ((with_reducible refine gate_dst (N := 2) rfl ?_); (try (refine gate_guard (by rfl) ?_; dsimp only)); refine box_event ?hg (N := 2) ?hd (cs := #[.int .i64 a0_0, .slice A0_1 l0_1.length c0_1, .slice A0_2 l0_2.length c0_2]) (t := 27) ?hr ?_; (case hd => rfl); (case hg => rfl); (case hr => first | (go_simp; done) | (go_simp; rfl)); intro gb499 hg w12 hbox hb; have n0_ := Aside0.mk (below_step (qB) hb); have n1_ := Aside0.mk (hbox); have n2_ := Aside0.mk ((by rw [hg]; exact (below_size (qB)) : w.heap.size ≤ gb499)); have n3_ := Aside0.mk ((by rw [hg]; exact (below_size (qB)) : w.heap.size ≤ gb499)); clear HB; have HB := n0_; have BK499 := n1_; have GW499 := n2_; have GE499 := n3_; clear n0_ n1_ n2_ n3_; clear hb hbox hg; have hcz13_0 : w12.cell? ⟨gb499, 0, none⟩ = some (.int .i64 a0_0) := (blk_cell BK499.out 0).trans rfl; have hcz13_1 : w12.cell? ⟨gb499, 1, none⟩ = some (.slice A0_1 l0_1.length c0_1) := (blk_cell BK499.out 1).trans rfl; have hcz13_2 : w12.cell? ⟨gb499, 2, none⟩ = some (.slice A0_2 l0_2.length c0_2) := (blk_cell BK499.out 2).trans rfl; have hfz13_0 := blk_frozen BK499.out 0; have hfz13_1 := blk_frozen BK499.out 1; have hfz13_2 := blk_frozen BK499.out 2) | ((with_reducible refine gate_callee (f := 42) rfl ?_); refine goesL_ (some 7) rfl rfl Try.func42 (by kernel_rfl) rfl #[.agg #[.int .i64 a0_0, .slice A0_1 l0_1.length c0_1, .slice A0_2 l0_2.length c0_2]] rfl qG ?_; (with_reducible refine (impl_GoodCircuit.calls k a0_0 _ _ l0_1 _ _ l0_2 true _ ?side1 ?side2 ?side3 ?side4 A3.out).mono ?_); (case side1 => exact qC (Kd.C_below HR0_1.out HB.out)); (case side2 => exact HC0_1.out); (case side3 => exact qC (Kd.C_below HR0_2.out HB.out)); (case side4 => exact HC0_2.out); rintro e w14 ⟨rfl, hb⟩; refine ⟨_, rfl, ?_⟩; have n0_ := Aside0.mk (blk_below (g := gb499) (o := .cells #[.int .i64 a0_0, .slice A0_1 l0_1.length c0_1, .slice A0_2 l0_2.length c0_2] 27 (0, 0)) (qK BK499.out) hb); have n1_ := Aside0.mk (below_step (qB) hb); clear BK499; clear HB; have BK499 := n0_; have HB := n1_; clear n0_ n1_; (try clear hb); (try clear hb2); (try clear hk); (try clear hi); have hcz15_0 : w14.cell? ⟨gb499, 0, none⟩ = some (.int .i64 a0_0) := (blk_cell BK499.out 0).trans rfl; have hcz15_1 : w14.cell? ⟨gb499, 1, none⟩ = some (.slice A0_1 l0_1.length c0_1) := (blk_cell BK499.out 1).trans rfl; have hcz15_2 : w14.cell? ⟨gb499, 2, none⟩ = some (.slice A0_2 l0_2.length c0_2) := (blk_cell BK499.out 2).trans rfl; have hfz15_0 := blk_frozen BK499.out 0; have hfz15_1 := blk_frozen BK499.out 1; have hfz15_2 := blk_frozen BK499.out 2))
   go_ret2
   exact ⟨_, qE, by first | exact Kd.R_nil _ _ _ _ _ | exact Kd.N_nil _ _ _ _ _ | exact Kd.V_nil _ _ _ _ _ | exact Kd.Q_nil _ _ _ _ _ | exact Kd.S_nil _ _ _ _ _, qB⟩
 ·replace c4 := Bool.eq_false_iff.mpr c4
  subst c4
  have H1 : (some (([] : List Bool), false)) = some (r1, r2) := by rw [if_neg (show ¬ (false = true) by decide)] at H; exact H
  clear H
  have H := H1
  clear H1
  simp only [Option.some.injEq, Prod.mk.injEq] at H
  obtain ⟨rfl, rfl⟩ := H
  go_enter Try.func85, Try.ntmps85
  go_wp2_with (first | ((with_reducible refine gate_dst (N := 2) rfl ?_); (try (refine gate_guard (by rfl) ?_; dsimp only)); refine box_event ?hg (N := 2) ?hd (cs := #[.int .i64 a0_0, .slice A0_1 l0_1.length c0_1, .slice A0_2 l0_2.length c0_2]) (t := 27) ?hr ?_; (case hd => rfl); (case hg => rfl); (case hr => first | (go_simp; done) | (go_simp; rfl)); intro gb499 hg w16 hbox hb; have n0_ := Aside0.mk (below_step (qB) hb); have n1_ := Aside0.mk (hbox); have n2_ := Aside0.mk ((by rw [hg]; exact (below_size (qB)) : w.heap.size ≤ gb499)); have n3_ := Aside0.mk ((by rw [hg]; exact (below_size (qB)) : w.heap.size ≤ gb499)); clear HB; have HB := n0_; have BK499 := n1_; have GW499 := n2_; have GE499 := n3_; clear n0_ n1_ n2_ n3_; clear hb hbox hg; have hcz17_0 : w16.cell? ⟨gb499, 0, none⟩ = some (.int .i64 a0_0) := (blk_cell BK499.out 0).trans rfl; have hcz17_1 : w16.cell? ⟨gb499, 1, none⟩ = some (.slice A0_1 l0_1.length c0_1) := (blk_cell BK499.out 1).trans rfl; have hcz17_2 : w16.cell? ⟨gb499, 2, none⟩ = some (.slice A0_2 l0_2.length c0_2) := (blk_cell BK499.out 2).trans rfl; have hfz17_0 := blk_frozen BK499.out 0; have hfz17_1 := blk_frozen BK499.out 1; have hfz17_2 := blk_frozen BK499.out 2) | ((with_reducible refine gate_callee (f := 42) rfl ?_); refine goesL_ (some 7) rfl rfl Try.func42 (by kernel_rfl) rfl #[.agg #[.int .i64 a0_0, .slice A0_1 l0_1.length c0_1, .slice A0_2 l0_2.length c0_2]] rfl qG ?_; (with_reducible refine (impl_GoodCircuit.calls k a0_0 _ _ l0_1 _ _ l0_2 false _ ?side1 ?side2 ?side3 ?side4 A3.out).mono ?_); (case side1 => exact qC (Kd.C_below HR0_1.out HB.out)); (case side2 => exact HC0_1.out); (case side3 => exact qC (Kd.C_below HR0_2.out HB.out)); (case side4 => exact HC0_2.out); rintro e w18 ⟨rfl, hb⟩; refine ⟨_, rfl, ?_⟩; have n0_ := Aside0.mk (blk_below (g := gb499) (o := .cells #[.int .i64 a0_0, .slice A0_1 l0_1.length c0_1, .slice A0_2 l0_2.length c0_2] 27 (0, 0)) (qK BK499.out) hb); have n1_ := Aside0.mk (below_step (qB) hb); clear BK499; clear HB; have BK499 := n0_; have HB := n1_; clear n0_ n1_; (try clear hb); (try clear hb2); (try clear hk); (try clear hi)))
  go_ret2
  exact ⟨_, qE, by first | exact Kd.R_nil _ _ _ _ _ | exact Kd.N_nil _ _ _ _ _ | exact Kd.V_nil _ _ _ _ _ | exact Kd.Q_nil _ _ _ _ _ | exact Kd.S_nil _ _ _ _ _, qB⟩

/-! ### impl_RunCircuit: function 54 -/
def impl_RunCircuit.l0 : Nat → List Bool → List Bool → List Int → Int → Int → Option (List Bool × Bool)
 | 0, _, _, _, _, _ => none
 | k + 1, x6, x8, x21, x22, x23 => if x23 < x22 then (if 0 ≤ x23 then (if x23 < (x21.length : Int) then (if 0 ≤ (rd x21 x23) then (if (rd x21 x23) < (x6.length : Int) then (if x8.length < 140737488355328 then (impl_RunCircuit.l0 k x6 (x8 ++ [rdOf false x6 (rd x21 x23)]) x21 x22 (wrap64 (x23 + 1))) else (none)) else (none)) else (none)) else (none)) else (none)) else (some (x8, true))
def impl_RunCircuit.f (k : Nat) (a0_0 : Int) (l0_1 : List (S93)) (l0_2 : List Int) (l1 : List Bool) : Option (List Bool × Bool) := (impl_AllWires.f k a0_0 l0_1 l0_2 l1).bind fun bt505 => (if bt505.2 = true then (impl_RunCircuit.l0 k bt505.1 (([] : List Bool)) l0_2 (l0_2.length : Int) 0) else (some (([] : List Bool), false)))
theorem impl_RunCircuit.mono_l : ∀ k, (∀ y0 y1 y2 y3 y4, LeO (impl_RunCircuit.l0 k y0 y1 y2 y3 y4) (impl_RunCircuit.l0 (k + 1) y0 y1 y2 y3 y4))
 | 0 => fun _ _ _ _ _ r h => by simp [impl_RunCircuit.l0] at h
 | k + 1 => by
  have ih0 := impl_RunCircuit.mono_l k
  ·intro y0 y1 y2 y3 y4
   unfold impl_RunCircuit.l0
   repeat' first
   | (with_reducible exact ih0 _ _ _ _ _)
   | (with_reducible exact impl_AllWires.mono _ _ _ _ _)
   | (with_reducible first | exact LeO.refl _ | exact LeO.none _ | refine LeO.ite ?_ ?_ | refine LeO.bind ?_ (fun _ => ?_))
   | exact ih0 _ _ _ _ _
   | exact impl_AllWires.mono _ _ _ _ _
   | exact LeO.none _ | refine LeO.ite ?_ ?_ | refine LeO.bind ?_ (fun _ => ?_)
theorem impl_RunCircuit.mono : ∀ a0 a1 a2 a3 k, LeO (impl_RunCircuit.f k a0 a1 a2 a3) (impl_RunCircuit.f (k + 1) a0 a1 a2 a3) := by
 intro a0 a1 a2 a3 k
 have ih0 := impl_RunCircuit.mono_l k
 unfold impl_RunCircuit.f
 repeat' first
   | (with_reducible exact ih0 _ _ _ _ _)
   | (with_reducible exact impl_AllWires.mono _ _ _ _ _)
   | (with_reducible first | exact LeO.refl _ | exact LeO.none _ | refine LeO.ite ?_ ?_ | refine LeO.bind ?_ (fun _ => ?_))
   | exact ih0 _ _ _ _ _
   | exact impl_AllWires.mono _ _ _ _ _
   | exact LeO.none _ | refine LeO.ite ?_ ?_ | refine LeO.bind ?_ (fun _ => ?_)
set_option maxHeartbeats 8000000 in
set_option maxRecDepth 100000 in
theorem impl_RunCircuit.calls (k : Nat) (a0_0 : Int) (A0_1 : Option Addr) (c0_1 : Nat) (l0_1 : List (S93)) (A0_2 : Option Addr) (c0_2 : Nat) (l0_2 : List Int) (A1 : Option Addr) (c1 : Nat) (l1 : List Bool) (r1 : List Bool) (r2 : Bool) (w : World) (hr0_1 : Kd.C k93 w A0_1 l0_1.length l0_1) (hc0_1 : l0_1.length ≤ c0_1) (hr0_2 : Kd.C (Kd.int .i64) w A0_2 l0_2.length l0_2) (hc0_2 : l0_2.length ≤ c0_2) (hr1 : Kd.C Kd.bool w A1 l1.length l1) (hc1 : l1.length ≤ c1) (h : impl_RunCircuit.f k a0_0 l0_1 l0_2 l1 = some (r1, r2)) :
  Calls Try.prog 54 #[.agg #[.int .i64 a0_0, .slice A0_1 l0_1.length c0_1, .slice A0_2 l0_2.length c0_2], .slice A1 l1.length c1] w fun e w' => ∃ v0_ : Value, e = .returned (.tuple #[v0_, .bool r2]) ∧ Kd.R Kd.bool 4 w' w.heap.size (fun _ => True) v0_ r1 ∧ Below w.heap.size w w' := by
 have hu27 := Try.underlying27
 have HR0_1 := Aside0.mk hr0_1
 have HC0_1 := Aside0.mk hc0_1
 clear hr0_1 hc0_1
 have HR0_2 := Aside0.mk hr0_2
 have HC0_2 := Aside0.mk hc0_2
 clear hr0_2 hc0_2
 have HR1 := Aside0.mk hr1
 have HC1 := Aside0.mk hc1
 clear hr1 hc1
 have HB := Aside0.mk (Below.refl w.heap.size w)
 have H : ((impl_AllWires.f k a0_0 l0_1 l0_2 l1).bind fun bt505 => (if bt505.2 = true then (impl_RunCircuit.l0 k bt505.1 (([] : List Bool)) l0_2 (l0_2.length : Int) 0) else (some (([] : List Bool), false)))) = some (r1, r2) := h
 clear h
 replace H := Option.bind_eq_some_iff.mp H
 obtain ⟨⟨t505, t508⟩, A30, H⟩ := H
 replace H : (if t508 = true then (impl_RunCircuit.l0 k t505 (([] : List Bool)) l0_2 (l0_2.length : Int) 0) else (some (([] : List Bool), false))) = some (r1, r2) := H
 have A3 := Aside0.mk A30
 clear A30
 by_cases c4 : t508 = true
 ·subst c4
  have H1 : (impl_RunCircuit.l0 k t505 (([] : List Bool)) l0_2 (l0_2.length : Int) 0) = some (r1, r2) := by rw [if_pos rfl] at H; exact H
  clear H
  have H := H1
  clear H1
  obtain ⟨y509, hy509⟩ : ∃ y_ : List Bool, y_ = (([] : List Bool)) := ⟨_, rfl⟩
  replace H : (impl_RunCircuit.l0 k t505 y509 l0_2 (l0_2.length : Int) 0) = some (r1, r2) := qY hy509 H
  have Ny509 := Aside0.mk hy509
  clear hy509
  have H' := Aside0.mk H
  clear H
  go_enter Try.func54, Try.ntmps54
  go_wp2_with (first | ((with_reducible refine gate_dst (N := 2) rfl ?_); refine box_event ?hg (N := 2) ?hd (cs := #[.int .i64 a0_0, .slice A0_1 l0_1.length c0_1, .slice A0_2 l0_2.length c0_2]) (t := 27) ?hr ?_; (case hd => rfl); (case hg => rfl); (case hr => first | (go_simp; done) | (go_simp; rfl)); intro gb504 hg w5 hbox hb; have n0_ := Aside0.mk (below_step (qB) hb); have n1_ := Aside0.mk (hbox); have n2_ := Aside0.mk ((by rw [hg]; exact (below_size (qB)) : w.heap.size ≤ gb504)); have n3_ := Aside0.mk ((by rw [hg]; exact (below_size (qB)) : w.heap.size ≤ gb504)); clear HB; have HB := n0_; have BK504 := n1_; have GW504 := n2_; have GE504 := n3_; clear n0_ n1_ n2_ n3_; clear hb hbox hg; have hcz6_0 : w5.cell? ⟨gb504, 0, none⟩ = some (.int .i64 a0_0) := (blk_cell BK504.out 0).trans rfl; have hcz6_1 : w5.cell? ⟨gb504, 1, none⟩ = some (.slice A0_1 l0_1.length c0_1) := (blk_cell BK504.out 1).trans rfl; have hcz6_2 : w5.cell? ⟨gb504, 2, none⟩ = some (.slice A0_2 l0_2.length c0_2) := (blk_cell BK504.out 2).trans rfl; have hfz6_0 := blk_frozen BK504.out 0; have hfz6_1 := blk_frozen BK504.out 1; have hfz6_2 := blk_frozen BK504.out 2) | ((with_reducible refine gate_callee (f := 85) rfl ?_); refine goesL_ (some 14) rfl rfl Try.func85 (by kernel_rfl) rfl #[.agg #[.int .i64 a0_0, .slice A0_1 l0_1.length c0_1, .slice A0_2 l0_2.length c0_2], .slice A1 l1.length c1] rfl qG ?_; (with_reducible refine (impl_AllWires.calls k a0_0 _ _ l0_1 _ _ l0_2 _ _ l1 t505 true _ ?side1 ?side2 ?side3 ?side4 ?side5 ?side6 A3.out).mono ?_); (case side1 => exact qC (Kd.C_below HR0_1.out HB.out)); (case side2 => exact HC0_1.out); (case side3 => exact qC (Kd.C_below HR0_2.out HB.out)); (case side4 => exact HC0_2.out); (case side5 => exact qC (Kd.C_below HR1.out HB.out)); (case side6 => exact HC1.out); rintro e w7 ⟨v506, rfl, ho0, hb⟩; refine ⟨_, rfl, ?_⟩; have n0_ := Aside0.mk (Kd.R_lower ho0 (below_size (qB))); have n1_ := Aside0.mk (blk_below (g := gb504) (o := .cells #[.int .i64 a0_0, .slice A0_1 l0_1.length c0_1, .slice A0_2 l0_2.length c0_2] 27 (0, 0)) (qK BK504.out) hb); have n2_ := Aside0.mk (below_step (qB) hb); clear BK504; clear HB; have HO507 := n0_; have BK504 := n1_; have HB := n2_; clear n0_ n1_ n2_; (try clear hb); (try clear hb2); (try clear hk); (try clear hi); (try clear ho0)) | ((with_reducible refine gate_dst (N := 19) rfl ?_); refine Kd.R_lit Kd.bool _ 4 ?hg (N := 19) ?hd (xs := ([] : List Bool)) (inner := []) (ok := fun _ => True) (okp := fun _ => True) ?hr ?hp (fun _ hk => hk) trivial (Below.refl _ _) (Nat.le_refl _) (by simp) ?_; (case hd => rfl); (case hg => rfl); (case hr => first | (go_simp; done) | (go_simp; rfl)); (case hp => exact (Reps.none _ _)); intro v510 w8 ho9 hb hg_ hnew_; clear hg_ hnew_; (first | rw [← Ny509.out] at ho9 | (simp only [Int.reduceToNat] at ho9; rw [← Ny509.out] at ho9)); have n0_ := Aside0.mk (Kd.R_elder' (qR HO507.out) (Kd.R_base ho9) hb); have n1_ := Aside0.mk (Kd.R_lower (Kd.R_new' ho9 (Kd.R_lt (qR HO507.out))) (below_size (qB))); have n2_ := Aside0.mk (blk_below (g := gb504) (o := .cells #[.int .i64 a0_0, .slice A0_1 l0_1.length c0_1, .slice A0_2 l0_2.length c0_2] 27 (0, 0)) (qK BK504.out) hb); have n3_ := Aside0.mk (below_step (qB) hb); clear HO507; clear BK504; clear HB; have HO507 := n0_; have HO511 := n1_; have BK504 := n2_; have HB := n3_; clear n0_ n1_ n2_ n3_; clear hb ho9; have hcz10_0 : w8.cell? ⟨gb504, 0, none⟩ = some (.int .i64 a0_0) := (blk_cell BK504.out 0).trans rfl; have hcz10_1 : w8.cell? ⟨gb504, 1, none⟩ = some (.slice A0_1 l0_1.length c0_1) := (blk_cell BK504.out 1).trans rfl; have hcz10_2 : w8.cell? ⟨gb504, 2, none⟩ = some (.slice A0_2 l0_2.length c0_2) := (blk_cell BK504.out 2).trans rfl; have hfz10_0 := blk_frozen BK504.out 0; have hfz10_1 := blk_frozen BK504.out 1; have hfz10_2 := blk_frozen BK504.out 2))
  go_loopg [8, 23] k (fun kq v8 v23 w' => ∃ (x8_1 : List Bool) (x23_1 : Int), v23 = .int .i64 x23_1 ∧ Aside0 (impl_RunCircuit.l0 kq t505 x8_1 l0_2 (l0_2.length : Int) x23_1 = some (r1, r2)) ∧ Aside0 (kq ≤ k) ∧ Aside0 (Kd.R Kd.bool 4 w' w.heap.size (fun k_ => some k_ ≠ (v8 : Value).ownBlock) v506 t505) ∧ Aside0 (Kd.R Kd.bool 4 w' w.heap.size (fun k_ => some k_ ≠ (v506 : Value).ownBlock) v8 x8_1) ∧ Aside0 (w'.heap[gb504]? = some (.cells #[.int .i64 a0_0, (.slice A0_1 l0_1.length c0_1), (.slice A0_2 l0_2.length c0_2)] 27 (0, 0))) ∧ Aside0 (Below w.heap.size w w'))
  case atStart => exact ⟨(y509), (0), qS, H', ⟨Nat.le_refl _⟩, ⟨by (with_reducible repeat (first | apply Kd.R_alloc | apply Kd.R_drewN | apply Kd.R_drew)); exact Kd.R_mono HO507.out (fun _ hk => hk.2)⟩, ⟨by (with_reducible repeat (first | apply Kd.R_alloc | apply Kd.R_drewN | apply Kd.R_drew)); exact Kd.R_mono HO511.out (fun _ hk => hk.2)⟩, ⟨by exact qK BK504.out⟩, ⟨qB⟩⟩
  case round =>
   clear H'
   try clear c1
   try clear p2
   try clear c4
   try clear c5
   try clear c8
   try clear hcz10_0
   try clear hcz10_1
   try clear hcz10_2
   try clear hcz6_0
   try clear hcz6_1
   try clear hcz6_2
   try clear hfz10_0
   try clear hfz10_1
   try clear hfz10_2
   try clear hfz6_0
   try clear hfz6_1
   try clear hfz6_2
   obtain ⟨x8_1, x23_1, rfl, HA, HK1, HO_6, HO_8, BK504, HB⟩ := hrel
   cases gk with
   | zero => exact absurd HA.out (by simp [impl_RunCircuit.l0])
   | succ k1 =>
    have H := HA.out
    clear HA
    simp only [impl_RunCircuit.l0] at H
    by_cases c11 : x23_1 < (l0_2.length : Int)
    ·rw [if_pos c11] at H
     have c11b0 : decide (x23_1 < (l0_2.length : Int)) = true := decide_eq_true c11
     clear c11
     by_cases c12 : 0 ≤ x23_1
     ·rw [if_pos c12] at H
      have c12b0 : decide (0 ≤ x23_1) = true := decide_eq_true c12
      clear c12
      by_cases c13 : x23_1 < (l0_2.length : Int)
      ·rw [if_pos c13] at H
       have c13b0 : decide (x23_1 < (l0_2.length : Int)) = true := decide_eq_true c13
       clear c13
       by_cases c14 : 0 ≤ (rd l0_2 x23_1)
       ·rw [if_pos c14] at H
        have c14b0 : decide (0 ≤ (rd l0_2 x23_1)) = true := decide_eq_true c14
        clear c14
        by_cases c15 : (rd l0_2 x23_1) < (t505.length : Int)
        ·rw [if_pos c15] at H
         have c15b0 : decide ((rd l0_2 x23_1) < (t505.length : Int)) = true := decide_eq_true c15
         clear c15
         by_cases c16 : x8_1.length < 140737488355328
         ·rw [if_pos c16] at H
          have LMc16 := Aside0.mk c16
          clear c16
          obtain ⟨y514, hy514⟩ : ∃ y_ : List Bool, y_ = (x8_1 ++ [rdOf false t505 (rd l0_2 x23_1)]) := ⟨_, rfl⟩
          replace H : (impl_RunCircuit.l0 k1 t505 y514 l0_2 (l0_2.length : Int) (wrap64 (x23_1 + 1))) = some (r1, r2) := qY hy514 H
          have Ny514 := Aside0.mk hy514
          clear hy514
          have H' := Aside0.mk H
          clear H
          have p512 : 0 ≤ (x23_1 : Int) := qD
          have q512 : x23_1 < (l0_2.length : Int) := qD
          obtain ⟨ad512, e512, hx512_0⟩ := Kd.at_int HR0_2.out x23_1 p512 q512
          cases e512
          replace hx512_0 := (HB.out.cell (World.block_lt_of_cell? w _ hx512_0)).trans hx512_0
          replace p512 := eq_true p512
          replace q512 := eq_true q512
          obtain ⟨Ao17, co17, eo17⟩ := Kd.R_slice HO_6.out
          subst eo17
          have p513 : 0 ≤ ((rd l0_2 x23_1) : Int) := qD
          have q513 : (rd l0_2 x23_1) < (t505.length : Int) := qD
          obtain ⟨ad513, e513, hx513_0⟩ := Kd.at_bool (Kd.R_reads' HO_6.out).2.2 (rd l0_2 x23_1) p513 q513
          cases e513
          replace p513 := eq_true p513
          replace q513 := eq_true q513
          go_wp2_with (first | ((with_reducible refine gate_builtin (b := .append) (xs := #[.tmp 27, .tmp 32]) rfl ?_); at_builtin; refine Kd.R_append Kd.bool (w0 := w) w.heap.size rfl (.tmp 27) (.tmp 32) 46 4 (.bool false) 1 rfl Try.underlying46 info4 rfl (by decide) (by omega) u8 x8_1 (rdOf false t505 (rd l0_2 x23_1)) [.bool (rdOf false t505 (rd l0_2 x23_1))] (fun k_ => some k_ ≠ (.slice (some ad513) t505.length co17 : Value).ownBlock) (fun _ => False) rfl rfl ?aP (fun _ hk => hk.elim) ?aF ?aO ?aB ?aS ?aL ?_; (case aP => exact rfl); (case aB => exact (qB)); (case aF => exact (fun k_ hk => Kd.fresh' (Kd.R_lt (qR HO_6.out)) k_ hk)); (case aO => exact (qR HO_8.out)); (case aS => exact (below_size (qB))); (case aL => have := LMc16.out; omega); intro v515 w18 ho hb hg hat; rw [← Ny514.out] at ho; have n0_ := Aside0.mk (Kd.R_after (ok := (fun _ => True)) (by (with_reducible repeat (first | apply Kd.R_alloc | apply Kd.R_drewN | apply Kd.R_drew)); exact Kd.R_mono HO_6.out (fun _ hk => ⟨trivial, hk⟩)) hg hat); have n1_ := Aside0.mk (blk_grown (g := gb504) (o := .cells #[.int .i64 a0_0, .slice A0_1 l0_1.length c0_1, .slice (some ad512) l0_2.length c0_2] 27 (0, 0)) (qK BK504.out) hg (Kd.R_ne HO_8.out BK504.out (by decide))); have n2_ := Aside0.mk (hb); have n3_ := Aside0.mk (ho); clear HO_6; clear BK504; clear HB; clear HO_8; have HO_6 := n0_; have BK504 := n1_; have HB := n2_; have HO516 := n3_; clear n0_ n1_ n2_ n3_; clear ho hb hg hat))
          go_roundg k1
          case measure => have := HK1.out; omega
          case rel => exact ⟨(y514), (wrap64 (x23_1 + 1)), qS, H', ⟨by have := HK1.out; omega⟩, ⟨by (with_reducible repeat (first | apply Kd.R_alloc | apply Kd.R_drewN | apply Kd.R_drew)); exact Kd.R_mono HO_6.out (fun _ hk => hk.2)⟩, ⟨qR HO516.out⟩, ⟨by exact qK BK504.out⟩, ⟨qB⟩⟩
         ·rw [if_neg c16] at H
          exact absurd H (by simp)
        ·rw [if_neg c15] at H
         exact absurd H (by simp)
       ·rw [if_neg c14] at H
        exact absurd H (by simp)
      ·rw [if_neg c13] at H
       exact absurd H (by simp)
     ·rw [if_neg c12] at H
      exact absurd H (by simp)
    ·rw [if_neg c11] at H
     have c11b0 : decide (x23_1 < (l0_2.length : Int)) = false := decide_eq_false c11
     clear c11
     simp only [Option.some.injEq, Prod.mk.injEq] at H
     obtain ⟨rfl, rfl⟩ := H
     go_wp2
     go_ret2
     exact ⟨_, qE, by (with_reducible repeat (first | apply Kd.R_alloc | apply Kd.R_drewN | apply Kd.R_drew)); exact Kd.R_mono HO_8.out (fun _ hk => trivial), qB⟩
 ·replace c4 := Bool.eq_false_iff.mpr c4
  subst c4
  have H1 : (some (([] : List Bool), false)) = some (r1, r2) := by rw [if_neg (show ¬ (false = true) by decide)] at H; exact H
  clear H
  have H := H1
  clear H1
  simp only [Option.some.injEq, Prod.mk.injEq] at H
  obtain ⟨rfl, rfl⟩ := H
  go_enter Try.func54, Try.ntmps54
  go_wp2_with (first | ((with_reducible refine gate_dst (N := 2) rfl ?_); refine box_event ?hg (N := 2) ?hd (cs := #[.int .i64 a0_0, .slice A0_1 l0_1.length c0_1, .slice A0_2 l0_2.length c0_2]) (t := 27) ?hr ?_; (case hd => rfl); (case hg => rfl); (case hr => first | (go_simp; done) | (go_simp; rfl)); intro gb504 hg w19 hbox hb; have n0_ := Aside0.mk (below_step (qB) hb); have n1_ := Aside0.mk (hbox); have n2_ := Aside0.mk ((by rw [hg]; exact (below_size (qB)) : w.heap.size ≤ gb504)); have n3_ := Aside0.mk ((by rw [hg]; exact (below_size (qB)) : w.heap.size ≤ gb504)); clear HB; have HB := n0_; have BK504 := n1_; have GW504 := n2_; have GE504 := n3_; clear n0_ n1_ n2_ n3_; clear hb hbox hg; have hcz20_0 : w19.cell? ⟨gb504, 0, none⟩ = some (.int .i64 a0_0) := (blk_cell BK504.out 0).trans rfl; have hcz20_1 : w19.cell? ⟨gb504, 1, none⟩ = some (.slice A0_1 l0_1.length c0_1) := (blk_cell BK504.out 1).trans rfl; have hcz20_2 : w19.cell? ⟨gb504, 2, none⟩ = some (.slice A0_2 l0_2.length c0_2) := (blk_cell BK504.out 2).trans rfl; have hfz20_0 := blk_frozen BK504.out 0; have hfz20_1 := blk_frozen BK504.out 1; have hfz20_2 := blk_frozen BK504.out 2) | ((with_reducible refine gate_callee (f := 85) rfl ?_); refine goesL_ (some 14) rfl rfl Try.func85 (by kernel_rfl) rfl #[.agg #[.int .i64 a0_0, .slice A0_1 l0_1.length c0_1, .slice A0_2 l0_2.length c0_2], .slice A1 l1.length c1] rfl qG ?_; (with_reducible refine (impl_AllWires.calls k a0_0 _ _ l0_1 _ _ l0_2 _ _ l1 t505 false _ ?side1 ?side2 ?side3 ?side4 ?side5 ?side6 A3.out).mono ?_); (case side1 => exact qC (Kd.C_below HR0_1.out HB.out)); (case side2 => exact HC0_1.out); (case side3 => exact qC (Kd.C_below HR0_2.out HB.out)); (case side4 => exact HC0_2.out); (case side5 => exact qC (Kd.C_below HR1.out HB.out)); (case side6 => exact HC1.out); rintro e w21 ⟨v506, rfl, ho0, hb⟩; refine ⟨_, rfl, ?_⟩; have n0_ := Aside0.mk (Kd.R_lower ho0 (below_size (qB))); have n1_ := Aside0.mk (blk_below (g := gb504) (o := .cells #[.int .i64 a0_0, .slice A0_1 l0_1.length c0_1, .slice A0_2 l0_2.length c0_2] 27 (0, 0)) (qK BK504.out) hb); have n2_ := Aside0.mk (below_step (qB) hb); clear BK504; clear HB; have HO507 := n0_; have BK504 := n1_; have HB := n2_; clear n0_ n1_ n2_; (try clear hb); (try clear hb2); (try clear hk); (try clear hi); (try clear ho0)))
  go_ret2
  exact ⟨_, qE, by first | exact Kd.R_nil _ _ _ _ _ | exact Kd.N_nil _ _ _ _ _ | exact Kd.V_nil _ _ _ _ _ | exact Kd.Q_nil _ _ _ _ _ | exact Kd.S_nil _ _ _ _ _, qB⟩

/-! ### impl_truth: function 86 -/
def impl_truth.f (a0 : Bool) : Option (Int) := if a0 = true then (some 1) else (some 0)
set_option maxHeartbeats 8000000 in
set_option maxRecDepth 100000 in
theorem impl_truth.calls (a0 : Bool) (r : Int) (w : World) (h : impl_truth.f a0 = some r) :
  Calls Try.prog 86 #[.bool a0] w fun e w' => e = .returned (.int .u64 r) ∧ Drawn0 w w' := by
 have H : (if a0 = true then (some 1) else (some 0)) = some r := h
 clear h
 by_cases c2 : a0 = true
 ·subst c2
  have H1 : (some 1) = some r := by rw [if_pos rfl] at H; exact H
  clear H
  have H := H1
  clear H1
  obtain rfl := Option.some.inj H
  go_enter Try.func86, Try.ntmps86
  go_wp2
  go_ret
  exact ⟨by first | rfl | (simp; done) | (simp [*]; done), by repeat (first | exact Drawn0.refl _ | apply Drawn0.step)⟩
 ·replace c2 := Bool.eq_false_iff.mpr c2
  subst c2
  have H1 : (some 0) = some r := by rw [if_neg (show ¬ (false = true) by decide)] at H; exact H
  clear H
  have H := H1
  clear H1
  obtain rfl := Option.some.inj H
  go_enter Try.func86, Try.ntmps86
  go_wp2
  go_ret
  exact ⟨by first | rfl | (simp; done) | (simp [*]; done), by repeat (first | exact Drawn0.refl _ | apply Drawn0.step)⟩

/-! ### impl_wordOf: function 55 -/
def impl_wordOf.l0 : Nat → Int → List Bool → Int → Int → Option (Int)
 | 0, _, _, _, _ => none
 | k + 1, x3, x6, x7, x8 => if x8 < x7 then (if 0 ≤ x8 then (if x8 < (x6.length : Int) then ((impl_truth.f (rdOf false x6 x8)).bind fun t518 => (impl_wordOf.l0 k (Go.bits .or .u64 x3 (shl .u64 t518 x8)) x6 x7 (wrap64 (x8 + 1)))) else (none)) else (none)) else (some x3)
def impl_wordOf.f (k : Nat) (l0 : List Bool) : Option (Int) := impl_wordOf.l0 k 0 l0 (l0.length : Int) 0
theorem impl_wordOf.mono_l : ∀ k, (∀ y0 y1 y2 y3, LeO (impl_wordOf.l0 k y0 y1 y2 y3) (impl_wordOf.l0 (k + 1) y0 y1 y2 y3))
 | 0 => fun _ _ _ _ r h => by simp [impl_wordOf.l0] at h
 | k + 1 => by
  have ih0 := impl_wordOf.mono_l k
  ·intro y0 y1 y2 y3
   unfold impl_wordOf.l0
   repeat' first
   | (with_reducible exact ih0 _ _ _ _)
   | (with_reducible first | exact LeO.refl _ | exact LeO.none _ | refine LeO.ite ?_ ?_ | refine LeO.bind ?_ (fun _ => ?_))
   | exact ih0 _ _ _ _
   | exact LeO.none _ | refine LeO.ite ?_ ?_ | refine LeO.bind ?_ (fun _ => ?_)
theorem impl_wordOf.mono : ∀ a0 k, LeO (impl_wordOf.f k a0) (impl_wordOf.f (k + 1) a0) := by
 intro a0 k
 have ih0 := impl_wordOf.mono_l k
 unfold impl_wordOf.f
 repeat' first
   | (with_reducible exact ih0 _ _ _ _)
   | (with_reducible first | exact LeO.refl _ | exact LeO.none _ | refine LeO.ite ?_ ?_ | refine LeO.bind ?_ (fun _ => ?_))
   | exact ih0 _ _ _ _
   | exact LeO.none _ | refine LeO.ite ?_ ?_ | refine LeO.bind ?_ (fun _ => ?_)
set_option maxHeartbeats 8000000 in
set_option maxRecDepth 100000 in
theorem impl_wordOf.calls (k : Nat) (A0 : Option Addr) (c0 : Nat) (l0 : List Bool) (r : Int) (w : World) (hr0 : Kd.C Kd.bool w A0 l0.length l0) (hc0 : l0.length ≤ c0) (h : impl_wordOf.f k l0 = some r) :
  Calls Try.prog 55 #[.slice A0 l0.length c0] w fun e w' => e = .returned (.int .u64 r) ∧ Drawn0 w w' := by
 have HR0 := Aside0.mk hr0
 have HC0 := Aside0.mk hc0
 clear hr0 hc0
 have H : (impl_wordOf.l0 k 0 l0 (l0.length : Int) 0) = some r := h
 clear h
 have H' := Aside0.mk H
 clear H
 go_enter Try.func55, Try.ntmps55
 go_wp2
 go_loopg [3, 8] k (fun kq v3 v8 w' => ∃ (x3_1 : Int) (x8_1 : Int), v3 = .int .u64 x3_1 ∧ v8 = .int .i64 x8_1 ∧ Aside0 (impl_wordOf.l0 kq x3_1 l0 (l0.length : Int) x8_1 = some r) ∧ Aside0 (kq ≤ k) ∧ Drawn0 w w')
 case atStart => exact ⟨(0), (0), qS, qS, H', ⟨Nat.le_refl _⟩, by repeat (first | exact Drawn0.refl _ | apply Drawn0.step)⟩
 case round =>
  clear H'
  obtain ⟨x3_1, x8_1, rfl, rfl, HA, HK1, ⟨m1, rfl⟩⟩ := hrel
  cases gk with
  | zero => exact absurd HA.out (by simp [impl_wordOf.l0])
  | succ k1 =>
   have H := HA.out
   clear HA
   simp only [impl_wordOf.l0] at H
   by_cases c2 : x8_1 < (l0.length : Int)
   ·rw [if_pos c2] at H
    have c2b0 : decide (x8_1 < (l0.length : Int)) = true := decide_eq_true c2
    clear c2
    by_cases c3 : 0 ≤ x8_1
    ·rw [if_pos c3] at H
     have c3b0 : decide (0 ≤ x8_1) = true := decide_eq_true c3
     clear c3
     by_cases c4 : x8_1 < (l0.length : Int)
     ·rw [if_pos c4] at H
      have c4b0 : decide (x8_1 < (l0.length : Int)) = true := decide_eq_true c4
      clear c4
      replace H := Option.bind_eq_some_iff.mp H
      obtain ⟨t518, A50, H⟩ := H
      replace H : (impl_wordOf.l0 k1 (Go.bits .or .u64 x3_1 (shl .u64 t518 x8_1)) l0 (l0.length : Int) (wrap64 (x8_1 + 1))) = some r := H
      have A5 := Aside0.mk A50
      clear A50
      have c6b0 := eq_true (qD : 0 ≤ x8_1)
      obtain ⟨ji7, hji7⟩ : ∃ j_ : Int, (shl .u64 t518 x8_1) = j_ := ⟨_, rfl⟩
      replace H : (impl_wordOf.l0 k1 (Go.bits .or .u64 x3_1 (ji7)) l0 (l0.length : Int) (wrap64 (x8_1 + 1))) = some r := by first | (rw [hji7] at H; exact H) | (simp only [hji7] at H ⊢; exact H)
      (try rw [hji7] at A5)
      have hji7_ : (IntKind.u64.wrap (t518 * 2 ^ min x8_1.toNat 64)) = ji7 := hji7
      have hji7z : x8_1 ≤ 64 → (IntKind.u64.wrap (t518 * 2 ^ x8_1.toNat)) = ji7 := shl_small hji7
      have H' := Aside0.mk H
      clear H
      have p517 : 0 ≤ (x8_1 : Int) := qD
      have q517 : x8_1 < (l0.length : Int) := qD
      obtain ⟨ad517, e517, hx517_0⟩ := Kd.at_bool HR0.out x8_1 p517 q517
      cases e517
      replace p517 := eq_true p517
      replace q517 := eq_true q517
      go_wp2_with (first | ((with_reducible refine gate_callee (f := 86) rfl ?_); refine goesL_ (some 15) rfl rfl Try.func86 (by kernel_rfl) rfl #[.bool (rdOf false l0 x8_1)] rfl qG ?_; (with_reducible refine (impl_truth.calls (rdOf false l0 x8_1) t518 _ A5.out).mono ?_); rintro e w' ⟨rfl, ⟨nd, rfl⟩⟩; refine ⟨_, rfl, ?_⟩))
      go_roundg k1
      case measure => have := HK1.out; omega
      case rel => exact ⟨(Go.bits .or .u64 x3_1 (ji7)), (wrap64 (x8_1 + 1)), (by first | rfl | (simp; done) | (simp only [← hji7] <;> (first | rfl | simp)) | (simp [*]; done)), qS, H', ⟨by have := HK1.out; omega⟩, by repeat (first | exact Drawn0.refl _ | apply Drawn0.step)⟩
     ·rw [if_neg c4] at H
      exact absurd H (by simp)
    ·rw [if_neg c3] at H
     exact absurd H (by simp)
   ·rw [if_neg c2] at H
    have c2b0 : decide (x8_1 < (l0.length : Int)) = false := decide_eq_false c2
    clear c2
    obtain rfl := Option.some.inj H
    go_wp2
    go_ret
    exact ⟨by first | rfl | (simp; done) | (simp [*]; done), by repeat (first | exact Drawn0.refl _ | apply Drawn0.step)⟩


/-! ### impl_RunLaid: function 21 -/
def impl_RunLaid.j0 : Nat → List Bool → Bool → Int → List (S93) → List Int → Option (Int × Bool)
 | 0, _, _, _, _, _ => none
 | k + 1, x8, x33, x532000, x532001, x532002 => if x33 = true then (some (0, false)) else ((impl_RunCircuit.f k x532000 x532001 x532002 x8).bind fun bt532 => ((impl_wordOf.f k bt532.1).bind fun t536 => (some (t536, true))))
def impl_RunLaid.f (k : Nat) (a0 : Int) (l1 : List (S63)) (l2 : List Int) : Option (Int × Bool) := (impl_BitsOf.f k a0 l2).bind fun bt519 => ((impl_GatesFor.f k a0 (l2.length : Int) l1).bind fun bt523 => (if bt519.2 = true then (impl_RunLaid.j0 k bt519.1 (!bt523.2.2.2) bt523.1 bt523.2.1 bt523.2.2.1) else (impl_RunLaid.j0 k bt519.1 true bt523.1 bt523.2.1 bt523.2.2.1)))
theorem impl_RunLaid.mono_l : ∀ k, (∀ y0 y1 y2 y3 y4, LeO (impl_RunLaid.j0 k y0 y1 y2 y3 y4) (impl_RunLaid.j0 (k + 1) y0 y1 y2 y3 y4))
 | 0 => fun _ _ _ _ _ r h => by simp [impl_RunLaid.j0] at h
 | k + 1 => by
  have ih0 := impl_RunLaid.mono_l k
  ·intro y0 y1 y2 y3 y4
   unfold impl_RunLaid.j0
   repeat' first
   | (with_reducible exact ih0 _ _ _ _ _)
   | (with_reducible exact impl_BitsOf.mono _ _ _)
   | (with_reducible exact impl_GatesFor.mono _ _ _ _)
   | (with_reducible exact impl_RunCircuit.mono _ _ _ _ _)
   | (with_reducible exact impl_wordOf.mono _ _)
   | (with_reducible first | exact LeO.refl _ | exact LeO.none _ | refine LeO.ite ?_ ?_ | refine LeO.bind ?_ (fun _ => ?_))
   | exact ih0 _ _ _ _ _
   | exact impl_BitsOf.mono _ _ _
   | exact impl_GatesFor.mono _ _ _ _
   | exact impl_RunCircuit.mono _ _ _ _ _
   | exact impl_wordOf.mono _ _
   | exact LeO.none _ | refine LeO.ite ?_ ?_ | refine LeO.bind ?_ (fun _ => ?_)
theorem impl_RunLaid.mono : ∀ a0 a1 a2 k, LeO (impl_RunLaid.f k a0 a1 a2) (impl_RunLaid.f (k + 1) a0 a1 a2) := by
 intro a0 a1 a2 k
 have ih0 := impl_RunLaid.mono_l k
 unfold impl_RunLaid.f
 repeat' first
   | (with_reducible exact ih0 _ _ _ _ _)
   | (with_reducible exact impl_BitsOf.mono _ _ _)
   | (with_reducible exact impl_GatesFor.mono _ _ _ _)
   | (with_reducible exact impl_RunCircuit.mono _ _ _ _ _)
   | (with_reducible exact impl_wordOf.mono _ _)
   | (with_reducible first | exact LeO.refl _ | exact LeO.none _ | refine LeO.ite ?_ ?_ | refine LeO.bind ?_ (fun _ => ?_))
   | exact ih0 _ _ _ _ _
   | exact impl_BitsOf.mono _ _ _
   | exact impl_GatesFor.mono _ _ _ _
   | exact impl_RunCircuit.mono _ _ _ _ _
   | exact impl_wordOf.mono _ _
   | exact LeO.none _ | refine LeO.ite ?_ ?_ | refine LeO.bind ?_ (fun _ => ?_)
set_option maxHeartbeats 8000000 in
set_option maxRecDepth 100000 in
theorem impl_RunLaid.calls (k : Nat) (a0 : Int) (A1 : Option Addr) (c1 : Nat) (l1 : List (S63)) (A2 : Option Addr) (c2 : Nat) (l2 : List Int) (r1 : Int) (r2 : Bool) (w : World) (hr1 : Kd.C k63 w A1 l1.length l1) (hc1 : l1.length ≤ c1) (hr2 : Kd.C (Kd.int .u64) w A2 l2.length l2) (hc2 : l2.length ≤ c2) (h : impl_RunLaid.f k a0 l1 l2 = some (r1, r2)) :
  Calls Try.prog 21 #[.int .i64 a0, .slice A1 l1.length c1, .slice A2 l2.length c2] w fun e w' => e = .returned (.tuple #[.int .u64 r1, .bool r2]) ∧ Below w.heap.size w w' := by
 have hu27 := Try.underlying27
 have HR1 := Aside0.mk hr1
 have HC1 := Aside0.mk hc1
 clear hr1 hc1
 have HR2 := Aside0.mk hr2
 have HC2 := Aside0.mk hc2
 clear hr2 hc2
 have HB := Aside0.mk (Below.refl w.heap.size w)
 have H : ((impl_BitsOf.f k a0 l2).bind fun bt519 => ((impl_GatesFor.f k a0 (l2.length : Int) l1).bind fun bt523 => (if bt519.2 = true then (impl_RunLaid.j0 k bt519.1 (!bt523.2.2.2) bt523.1 bt523.2.1 bt523.2.2.1) else (impl_RunLaid.j0 k bt519.1 true bt523.1 bt523.2.1 bt523.2.2.1)))) = some (r1, r2) := h
 clear h
 replace H := Option.bind_eq_some_iff.mp H
 obtain ⟨⟨t519, t520⟩, A40, H⟩ := H
 replace H : ((impl_GatesFor.f k a0 (l2.length : Int) l1).bind fun bt523 => (if t520 = true then (impl_RunLaid.j0 k t519 (!bt523.2.2.2) bt523.1 bt523.2.1 bt523.2.2.1) else (impl_RunLaid.j0 k t519 true bt523.1 bt523.2.1 bt523.2.2.1))) = some (r1, r2) := H
 have A4 := Aside0.mk A40
 clear A40
 replace H := Option.bind_eq_some_iff.mp H
 obtain ⟨⟨t523, t524, t527, t530⟩, A50, H⟩ := H
 replace H : (if t520 = true then (impl_RunLaid.j0 k t519 (!t530) t523 t524 t527) else (impl_RunLaid.j0 k t519 true t523 t524 t527)) = some (r1, r2) := H
 have A5 := Aside0.mk A50
 clear A50
 have HC6 := Aside0.mk H
 clear H
 go_enter Try.func21, Try.ntmps21
 go_upto_region 3 with (first | ((with_reducible refine gate_callee (f := 24) rfl ?_); refine goesL_ (some 17) rfl rfl Try.func24 (by kernel_rfl) rfl #[.int .i64 a0, .slice A2 l2.length c2] rfl qG ?_; (with_reducible refine (impl_BitsOf.calls k a0 _ _ l2 t519 t520 _ ?side1 ?side2 A4.out).mono ?_); (case side1 => exact qC HR2.out); (case side2 => exact HC2.out); rintro e w7 ⟨v521, rfl, ho0, hb⟩; refine ⟨_, rfl, ?_⟩; have n0_ := Aside0.mk (Kd.R_lower ho0 (below_size (qB))); have n1_ := Aside0.mk (below_step (qB) hb); clear HB; have HO522 := n0_; have HB := n1_; clear n0_ n1_; (try clear hb); (try clear hb2); (try clear hk); (try clear hi); (try clear ho0)) | ((with_reducible refine gate_callee (f := 11) rfl ?_); refine goesL_ (some 25) rfl rfl Try.func11 (by kernel_rfl) rfl #[.int .i64 a0, .int .i64 (l2.length : Int), .slice A1 l1.length c1] rfl qG ?_; (with_reducible refine (impl_GatesFor.calls k a0 (l2.length : Int) _ _ l1 t523 t524 t527 t530 _ ?side1 ?side2 A5.out).mono ?_); (case side1 => exact qC (Kd.C_below HR1.out HB.out)); (case side2 => exact HC1.out); rintro e w8 ⟨v525, v528, rfl, ho0, ho1, hb⟩; refine ⟨_, rfl, ?_⟩; have n0_ := Aside0.mk (Kd.R_below (qR HO522.out) hb); have n1_ := Aside0.mk (Kd.R_lower ho0 (below_size (qB))); have n2_ := Aside0.mk (Kd.R_lower ho1 (below_size (qB))); have n3_ := Aside0.mk (below_step (qB) hb); clear HO522; clear HB; have HO522 := n0_; have HO526 := n1_; have HO529 := n2_; have HB := n3_; clear n0_ n1_ n2_ n3_; (try clear hb); (try clear hb2); (try clear hk); (try clear hi); (try clear ho0); (try clear ho1)) | ((with_reducible refine gate_dst (N := 10) rfl ?_); refine box_event ?hg (N := 10) ?hd (cs := #[.int .i64 0, .slice none 0 0, .slice none 0 0]) (t := 27) ?hr ?_; (case hd => rfl); (case hg => rfl); (case hr => first | (go_simp; done) | (go_simp; rfl)); intro gb531 hg w9 hbox hb; have n0_ := Aside0.mk (Kd.R_below (qR HO522.out) hb); have n1_ := Aside0.mk (Kd.R_below (qR HO526.out) hb); have n2_ := Aside0.mk (Kd.R_below (qR HO529.out) hb); have n3_ := Aside0.mk (below_step (qB) hb); have n4_ := Aside0.mk (hbox); have n5_ := Aside0.mk ((by rw [hg]; exact (below_size (qB)) : w.heap.size ≤ gb531)); have n6_ := Aside0.mk ((by rw [hg]; exact (below_size (qB)) : w.heap.size ≤ gb531)); clear HO522; clear HO526; clear HO529; clear HB; have HO522 := n0_; have HO526 := n1_; have HO529 := n2_; have HB := n3_; have BK531 := n4_; have GW531 := n5_; have GE531 := n6_; clear n0_ n1_ n2_ n3_ n4_ n5_ n6_; clear hb hbox hg; have hcz10_0 : w9.cell? ⟨gb531, 0, none⟩ = some (.int .i64 0) := (blk_cell BK531.out 0).trans rfl; have hcz10_1 : w9.cell? ⟨gb531, 1, none⟩ = some (.slice none 0 0) := (blk_cell BK531.out 1).trans rfl; have hcz10_2 : w9.cell? ⟨gb531, 2, none⟩ = some (.slice none 0 0) := (blk_cell BK531.out 2).trans rfl; have hfz10_0 := blk_frozen BK531.out 0; have hfz10_1 := blk_frozen BK531.out 1; have hfz10_2 := blk_frozen BK531.out 2; obtain ⟨Ao11, co11, eo11⟩ := Kd.R_slice HO526.out; subst eo11; obtain ⟨Ao12, co12, eo12⟩ := Kd.R_slice HO529.out; subst eo12))
 (try simp only [Act.put, List.setIfInBounds_toArray, List.set_cons_zero, List.set_cons_succ])
 go_cut [33] (fun v33 wc => ∃ (kq : Nat) (x33_5 : Bool), v33 = .bool x33_5 ∧ Aside0 (impl_RunLaid.j0 kq t519 x33_5 t523 t524 t527 = some (r1, r2)) ∧ Aside0 (kq ≤ k) ∧ Aside0 (Kd.R Kd.bool 4 wc w.heap.size (fun _ => True) v521 t519) ∧ Aside0 (Kd.R k93 93 wc w.heap.size (fun _ => True) (.slice Ao11 t524.length co11) t524) ∧ Aside0 (Kd.R (Kd.int .i64) 3 wc w.heap.size (fun _ => True) (.slice Ao12 t527.length co12) t527) ∧ Aside0 (wc.heap[gb531]? = some (.cells #[.int .i64 t523, (.slice Ao11 t524.length co11), (.slice Ao12 t527.length co12)] 27 (0, 0))) ∧ Aside0 (Below w.heap.size w wc))
 case first =>
  have H := HC6.out
  clear HC6
  by_cases c13 : t520 = true
  ·subst c13
   have H1 : (impl_RunLaid.j0 k t519 (!t530) t523 t524 t527) = some (r1, r2) := by rw [if_pos rfl] at H; exact H
   clear H
   have H := H1
   clear H1
   have H' := Aside0.mk H
   clear H
   go_wp2
   go_meet
   case rel => exact ⟨_, (!t530), qS, H', ⟨by first | omega | exact Nat.le_refl _⟩, ⟨by (with_reducible repeat (first | apply Kd.R_alloc | apply Kd.R_drewN | apply Kd.R_drew)); exact Kd.R_mono (Kd.R_far (p := ⟨gb531, 2, none⟩) (Kd.R_far (p := ⟨gb531, 1, none⟩) (Kd.R_far (p := ⟨gb531, 0, none⟩) (Kd.R_types HO522.out BK531.out (by decide)) (fun _ hk => hk.2) (.int .i64 t523)) (fun _ hk => hk.2) (.slice Ao11 t524.length co11)) (fun _ hk => hk.2) (.slice Ao12 t527.length co12)) (fun _ hk => trivial)⟩, ⟨by (with_reducible repeat (first | apply Kd.R_alloc | apply Kd.R_drewN | apply Kd.R_drew)); exact Kd.R_mono (Kd.R_far (p := ⟨gb531, 2, none⟩) (Kd.R_far (p := ⟨gb531, 1, none⟩) (Kd.R_far (p := ⟨gb531, 0, none⟩) (Kd.R_types HO526.out BK531.out (by decide)) (fun _ hk => hk.2) (.int .i64 t523)) (fun _ hk => hk.2) (.slice Ao11 t524.length co11)) (fun _ hk => hk.2) (.slice Ao12 t527.length co12)) (fun _ hk => trivial)⟩, ⟨by (with_reducible repeat (first | apply Kd.R_alloc | apply Kd.R_drewN | apply Kd.R_drew)); exact Kd.R_mono (Kd.R_far (p := ⟨gb531, 2, none⟩) (Kd.R_far (p := ⟨gb531, 1, none⟩) (Kd.R_far (p := ⟨gb531, 0, none⟩) (Kd.R_types HO529.out BK531.out (by decide)) (fun _ hk => hk.2) (.int .i64 t523)) (fun _ hk => hk.2) (.slice Ao11 t524.length co11)) (fun _ hk => hk.2) (.slice Ao12 t527.length co12)) (fun _ hk => trivial)⟩, ⟨by (with_reducible repeat (first | refine blk_drewN ?_ _ | refine blk_drew ?_ | refine blk_alloc ?_ _)); refine blk_put (cs := #[.int .i64 t523, .slice Ao11 t524.length co11, .slice none 0 0]) ?_ 2 _ rfl; refine blk_put (cs := #[.int .i64 t523, .slice none 0 0, .slice none 0 0]) ?_ 1 _ rfl; refine blk_put (cs := #[.int .i64 0, .slice none 0 0, .slice none 0 0]) ?_ 0 _ rfl; exact qK BK531.out⟩, ⟨qB⟩⟩
  ·replace c13 := Bool.eq_false_iff.mpr c13
   subst c13
   have H1 : (impl_RunLaid.j0 k t519 true t523 t524 t527) = some (r1, r2) := by rw [if_neg (show ¬ (false = true) by decide)] at H; exact H
   clear H
   have H := H1
   clear H1
   have H' := Aside0.mk H
   clear H
   go_wp2
   go_meet
   case rel => exact ⟨_, (true), qS, H', ⟨by first | omega | exact Nat.le_refl _⟩, ⟨by (with_reducible repeat (first | apply Kd.R_alloc | apply Kd.R_drewN | apply Kd.R_drew)); exact Kd.R_mono (Kd.R_far (p := ⟨gb531, 2, none⟩) (Kd.R_far (p := ⟨gb531, 1, none⟩) (Kd.R_far (p := ⟨gb531, 0, none⟩) (Kd.R_types HO522.out BK531.out (by decide)) (fun _ hk => hk.2) (.int .i64 t523)) (fun _ hk => hk.2) (.slice Ao11 t524.length co11)) (fun _ hk => hk.2) (.slice Ao12 t527.length co12)) (fun _ hk => trivial)⟩, ⟨by (with_reducible repeat (first | apply Kd.R_alloc | apply Kd.R_drewN | apply Kd.R_drew)); exact Kd.R_mono (Kd.R_far (p := ⟨gb531, 2, none⟩) (Kd.R_far (p := ⟨gb531, 1, none⟩) (Kd.R_far (p := ⟨gb531, 0, none⟩) (Kd.R_types HO526.out BK531.out (by decide)) (fun _ hk => hk.2) (.int .i64 t523)) (fun _ hk => hk.2) (.slice Ao11 t524.length co11)) (fun _ hk => hk.2) (.slice Ao12 t527.length co12)) (fun _ hk => trivial)⟩, ⟨by (with_reducible repeat (first | apply Kd.R_alloc | apply Kd.R_drewN | apply Kd.R_drew)); exact Kd.R_mono (Kd.R_far (p := ⟨gb531, 2, none⟩) (Kd.R_far (p := ⟨gb531, 1, none⟩) (Kd.R_far (p := ⟨gb531, 0, none⟩) (Kd.R_types HO529.out BK531.out (by decide)) (fun _ hk => hk.2) (.int .i64 t523)) (fun _ hk => hk.2) (.slice Ao11 t524.length co11)) (fun _ hk => hk.2) (.slice Ao12 t527.length co12)) (fun _ hk => trivial)⟩, ⟨by (with_reducible repeat (first | refine blk_drewN ?_ _ | refine blk_drew ?_ | refine blk_alloc ?_ _)); refine blk_put (cs := #[.int .i64 t523, .slice Ao11 t524.length co11, .slice none 0 0]) ?_ 2 _ rfl; refine blk_put (cs := #[.int .i64 t523, .slice none 0 0, .slice none 0 0]) ?_ 1 _ rfl; refine blk_put (cs := #[.int .i64 0, .slice none 0 0, .slice none 0 0]) ?_ 0 _ rfl; exact qK BK531.out⟩, ⟨qB⟩⟩
 case rest =>
  clear HC6
  try clear c1
  try clear c2
  try clear p2
  try clear c11
  try clear c13
  try clear hcz10_0
  try clear hcz10_1
  try clear hcz10_2
  try clear hfz10_0
  try clear hfz10_1
  try clear hfz10_2
  obtain ⟨kq, x33_5, rfl, HA, HJ5, HO_8, HO_532001, HO_532002, BK531, HB⟩ := hcut
  cases kq with
  | zero => exact absurd HA.out (by simp [impl_RunLaid.j0])
  | succ kj5 =>
   have H := HA.out
   clear HA
   simp only [impl_RunLaid.j0] at H
   by_cases c14 : x33_5 = true
   ·subst c14
    have H1 : (some (0, false)) = some (r1, r2) := by rw [if_pos rfl] at H; exact H
    clear H
    have H := H1
    clear H1
    simp only [Option.some.injEq, Prod.mk.injEq] at H
    obtain ⟨rfl, rfl⟩ := H
    go_wp2
    go_ret2
    exact ⟨qE, qB⟩
   ·replace c14 := Bool.eq_false_iff.mpr c14
    subst c14
    have H1 : ((impl_RunCircuit.f kj5 t523 t524 t527 t519).bind fun bt532 => ((impl_wordOf.f kj5 bt532.1).bind fun t536 => (some (t536, true)))) = some (r1, r2) := by rw [if_neg (show ¬ (false = true) by decide)] at H; exact H
    clear H
    have H := H1
    clear H1
    replace H := Option.bind_eq_some_iff.mp H
    obtain ⟨⟨t532, t535⟩, A150, H⟩ := H
    replace H : ((impl_wordOf.f kj5 t532).bind fun t536 => (some (t536, true))) = some (r1, r2) := H
    have A15 := Aside0.mk A150
    clear A150
    replace H := Option.bind_eq_some_iff.mp H
    obtain ⟨t536, A160, H⟩ := H
    replace H : (some (t536, true)) = some (r1, r2) := H
    have A16 := Aside0.mk A160
    clear A160
    simp only [Option.some.injEq, Prod.mk.injEq] at H
    obtain ⟨rfl, rfl⟩ := H
    have hcz17_0 : wc.cell? ⟨gb531, 0, none⟩ = some (.int .i64 t523) := (blk_cell BK531.out 0).trans rfl
    have hcz17_1 : wc.cell? ⟨gb531, 1, none⟩ = some (.slice Ao11 t524.length co11) := (blk_cell BK531.out 1).trans rfl
    have hcz17_2 : wc.cell? ⟨gb531, 2, none⟩ = some (.slice Ao12 t527.length co12) := (blk_cell BK531.out 2).trans rfl
    have hfz17_0 := blk_frozen BK531.out 0
    have hfz17_1 := blk_frozen BK531.out 1
    have hfz17_2 := blk_frozen BK531.out 2
    obtain ⟨Ao18, co18, eo18⟩ := Kd.R_slice HO_8.out
    subst eo18
    go_wp2_with (first | ((with_reducible refine gate_callee (f := 54) rfl ?_); refine goesL_ (some 37) rfl rfl Try.func54 (by kernel_rfl) rfl #[.agg #[.int .i64 t523, .slice Ao11 t524.length co11, .slice Ao12 t527.length co12], .slice Ao18 t519.length co18] rfl qG ?_; (with_reducible refine (impl_RunCircuit.calls kj5 t523 _ _ t524 _ _ t527 _ _ t519 t532 t535 _ ?side1 ?side2 ?side3 ?side4 ?side5 ?side6 A15.out).mono ?_); (case side1 => repeat (first | exact (Kd.R_reads' HO_532001.out).2.2 | (with_reducible refine Kd.C_alloc ?_ _) | (with_reducible refine Kd.C_drewN ?_ _) | (with_reducible refine Kd.C_drew ?_))); (case side2 => exact (Kd.R_reads' HO_532001.out).2.1); (case side3 => repeat (first | exact (Kd.R_reads' HO_532002.out).2.2 | (with_reducible refine Kd.C_alloc ?_ _) | (with_reducible refine Kd.C_drewN ?_ _) | (with_reducible refine Kd.C_drew ?_))); (case side4 => exact (Kd.R_reads' HO_532002.out).2.1); (case side5 => repeat (first | exact (Kd.R_reads' HO_8.out).2.2 | (with_reducible refine Kd.C_alloc ?_ _) | (with_reducible refine Kd.C_drewN ?_ _) | (with_reducible refine Kd.C_drew ?_))); (case side6 => exact (Kd.R_reads' HO_8.out).2.1); rintro e w19 ⟨v533, rfl, ho0, hb⟩; refine ⟨_, rfl, ?_⟩; have n0_ := Aside0.mk (Kd.R_elder' (qR HO_8.out) (Kd.R_base ho0) hb); have n1_ := Aside0.mk (Kd.R_below (qR HO_532001.out) hb); have n2_ := Aside0.mk (Kd.R_below (qR HO_532002.out) hb); have n3_ := Aside0.mk (Kd.R_lower (Kd.R_new' ho0 (Kd.R_lt (qR HO_8.out))) (below_size (qB))); have n4_ := Aside0.mk (blk_below (g := gb531) (o := .cells #[.int .i64 t523, .slice Ao11 t524.length co11, .slice Ao12 t527.length co12] 27 (0, 0)) (qK BK531.out) hb); have n5_ := Aside0.mk (below_step (qB) hb); clear HO_8; clear HO_532001; clear HO_532002; clear BK531; clear HB; have HO_8 := n0_; have HO_532001 := n1_; have HO_532002 := n2_; have HO534 := n3_; have BK531 := n4_; have HB := n5_; clear n0_ n1_ n2_ n3_ n4_ n5_; (try clear hb); (try clear hb2); (try clear hk); (try clear hi); (try clear ho0); obtain ⟨Ao20, co20, eo20⟩ := Kd.R_slice HO534.out; subst eo20) | ((with_reducible refine gate_callee (f := 55) rfl ?_); refine goesL_ (some 41) rfl rfl Try.func55 (by kernel_rfl) rfl #[.slice Ao20 t532.length co20] rfl qG ?_; (with_reducible refine (impl_wordOf.calls kj5 _ _ t532 t536 _ ?side1 ?side2 A16.out).mono ?_); (case side1 => repeat (first | exact (Kd.R_reads' HO534.out).2.2 | (with_reducible refine Kd.C_alloc ?_ _) | (with_reducible refine Kd.C_drewN ?_ _) | (with_reducible refine Kd.C_drew ?_))); (case side2 => exact (Kd.R_reads' HO534.out).2.1); rintro e w' ⟨rfl, ⟨nd, rfl⟩⟩; refine ⟨_, rfl, ?_⟩))
    go_ret2
    exact ⟨qE, qB⟩

/-! ### laws_eqUint64S: function 22 -/
def laws_eqUint64S.l0 : Nat → List Int → List Int → Int → Option (Bool)
 | 0, _, _, _ => none
 | k + 1, x0, x1, x5 => if x5 < (x0.length : Int) then (if 0 ≤ x5 then (if x5 < (x1.length : Int) then (if (rd x0 x5) = (rd x1 x5) then (laws_eqUint64S.l0 k x0 x1 (wrap64 (x5 + 1))) else (some false)) else (none)) else (none)) else (some true)
def laws_eqUint64S.f (k : Nat) (l0 : List Int) (l1 : List Int) : Option (Bool) := if (l0.length : Int) = (l1.length : Int) then (laws_eqUint64S.l0 k l0 l1 0) else (some false)
theorem laws_eqUint64S.mono_l : ∀ k, (∀ y0 y1 y2, LeO (laws_eqUint64S.l0 k y0 y1 y2) (laws_eqUint64S.l0 (k + 1) y0 y1 y2))
 | 0 => fun _ _ _ r h => by simp [laws_eqUint64S.l0] at h
 | k + 1 => by
  have ih0 := laws_eqUint64S.mono_l k
  ·intro y0 y1 y2
   unfold laws_eqUint64S.l0
   repeat' first
   | (with_reducible exact ih0 _ _ _)
   | (with_reducible first | exact LeO.refl _ | exact LeO.none _ | refine LeO.ite ?_ ?_ | refine LeO.bind ?_ (fun _ => ?_))
   | exact ih0 _ _ _
   | exact LeO.none _ | refine LeO.ite ?_ ?_ | refine LeO.bind ?_ (fun _ => ?_)
theorem laws_eqUint64S.mono : ∀ a0 a1 k, LeO (laws_eqUint64S.f k a0 a1) (laws_eqUint64S.f (k + 1) a0 a1) := by
 intro a0 a1 k
 have ih0 := laws_eqUint64S.mono_l k
 unfold laws_eqUint64S.f
 repeat' first
   | (with_reducible exact ih0 _ _ _)
   | (with_reducible first | exact LeO.refl _ | exact LeO.none _ | refine LeO.ite ?_ ?_ | refine LeO.bind ?_ (fun _ => ?_))
   | exact ih0 _ _ _
   | exact LeO.none _ | refine LeO.ite ?_ ?_ | refine LeO.bind ?_ (fun _ => ?_)
set_option maxHeartbeats 8000000 in
set_option maxRecDepth 100000 in
theorem laws_eqUint64S.calls (k : Nat) (A0 : Option Addr) (c0 : Nat) (l0 : List Int) (A1 : Option Addr) (c1 : Nat) (l1 : List Int) (r : Bool) (w : World) (hr0 : Kd.C (Kd.int .u64) w A0 l0.length l0) (hc0 : l0.length ≤ c0) (hr1 : Kd.C (Kd.int .u64) w A1 l1.length l1) (hc1 : l1.length ≤ c1) (h : laws_eqUint64S.f k l0 l1 = some r) :
  Calls Try.prog 22 #[.slice A0 l0.length c0, .slice A1 l1.length c1] w fun e w' => e = .returned (.bool r) ∧ Drawn0 w w' := by
 have HR0 := Aside0.mk hr0
 have HC0 := Aside0.mk hc0
 clear hr0 hc0
 have HR1 := Aside0.mk hr1
 have HC1 := Aside0.mk hc1
 clear hr1 hc1
 have H : (if (l0.length : Int) = (l1.length : Int) then (laws_eqUint64S.l0 k l0 l1 0) else (some false)) = some r := h
 clear h
 by_cases c3 : (l0.length : Int) = (l1.length : Int)
 ·rw [if_pos c3] at H
  have c3b0 : ((l0.length : Int) == (l1.length : Int)) = true := beq_iff_eq.mpr c3
  have c3b1 : ((l0.length : Int) != (l1.length : Int)) = false := bne_eq_false_iff_eq.mpr c3
  have c3b2 : (l0.length == l1.length) = true := by first | simpa using c3 | (simp at c3 ⊢; omega)
  clear c3
  have H' := Aside0.mk H
  clear H
  go_enter Try.func22, Try.ntmps22
  go_wp2
  go_loopg [5] k (fun kq v5 w' => ∃ (x5_1 : Int), v5 = .int .i64 x5_1 ∧ Aside0 (laws_eqUint64S.l0 kq l0 l1 x5_1 = some r) ∧ Aside0 (kq ≤ k) ∧ Drawn0 w w')
  case atStart => exact ⟨(0), qS, H', ⟨Nat.le_refl _⟩, by repeat (first | exact Drawn0.refl _ | apply Drawn0.step)⟩
  case round =>
   clear H'
   try clear c1
   try clear c2
   try clear p2
   try clear c3
   try clear c3b0
   try clear c3b1
   try clear c3b2
   obtain ⟨x5_1, rfl, HA, HK1, ⟨m1, rfl⟩⟩ := hrel
   cases gk with
   | zero => exact absurd HA.out (by simp [laws_eqUint64S.l0])
   | succ k1 =>
    have H := HA.out
    clear HA
    simp only [laws_eqUint64S.l0] at H
    by_cases c4 : x5_1 < (l0.length : Int)
    ·rw [if_pos c4] at H
     have c4b0 : decide (x5_1 < (l0.length : Int)) = true := decide_eq_true c4
     clear c4
     by_cases c5 : 0 ≤ x5_1
     ·rw [if_pos c5] at H
      have c5b0 : decide (0 ≤ x5_1) = true := decide_eq_true c5
      clear c5
      by_cases c6 : x5_1 < (l1.length : Int)
      ·rw [if_pos c6] at H
       have c6b0 : decide (x5_1 < (l1.length : Int)) = true := decide_eq_true c6
       clear c6
       by_cases c7 : (rd l0 x5_1) = (rd l1 x5_1)
       ·rw [if_pos c7] at H
        have c7b0 : ((rd l0 x5_1) == (rd l1 x5_1)) = true := beq_iff_eq.mpr c7
        have c7b1 : ((rd l0 x5_1) != (rd l1 x5_1)) = false := bne_eq_false_iff_eq.mpr c7
        clear c7
        have H' := Aside0.mk H
        clear H
        have p537 : 0 ≤ (x5_1 : Int) := qD
        have q537 : x5_1 < (l0.length : Int) := qD
        obtain ⟨ad537, e537, hx537_0⟩ := Kd.at_int HR0.out x5_1 p537 q537
        cases e537
        replace p537 := eq_true p537
        replace q537 := eq_true q537
        have p538 : 0 ≤ (x5_1 : Int) := qD
        have q538 : x5_1 < (l1.length : Int) := qD
        obtain ⟨ad538, e538, hx538_0⟩ := Kd.at_int HR1.out x5_1 p538 q538
        cases e538
        replace p538 := eq_true p538
        replace q538 := eq_true q538
        go_wp2
        repeat (go_quiet (fail); try go_wp2)
        go_roundg k1
        case measure => have := HK1.out; omega
        case rel => exact ⟨(wrap64 (x5_1 + 1)), qS, H', ⟨by have := HK1.out; omega⟩, by repeat (first | exact Drawn0.refl _ | apply Drawn0.step)⟩
       ·rw [if_neg c7] at H
        have c7b0 : ((rd l0 x5_1) == (rd l1 x5_1)) = false := beq_eq_false_iff_ne.mpr c7
        have c7b1 : ((rd l0 x5_1) != (rd l1 x5_1)) = true := bne_iff_ne.mpr c7
        obtain rfl := Option.some.inj H
        have p537 : 0 ≤ (x5_1 : Int) := qD
        have q537 : x5_1 < (l0.length : Int) := qD
        obtain ⟨ad537, e537, hx537_0⟩ := Kd.at_int HR0.out x5_1 p537 q537
        cases e537
        replace p537 := eq_true p537
        replace q537 := eq_true q537
        have p538 : 0 ≤ (x5_1 : Int) := qD
        have q538 : x5_1 < (l1.length : Int) := qD
        obtain ⟨ad538, e538, hx538_0⟩ := Kd.at_int HR1.out x5_1 p538 q538
        cases e538
        replace p538 := eq_true p538
        replace q538 := eq_true q538
        go_wp2
        repeat (go_quiet (fail); try go_wp2)
        go_ret
        exact ⟨by first | rfl | (simp; done) | (simp [*]; done), by repeat (first | exact Drawn0.refl _ | apply Drawn0.step)⟩
      ·rw [if_neg c6] at H
       exact absurd H (by simp)
     ·rw [if_neg c5] at H
      exact absurd H (by simp)
    ·rw [if_neg c4] at H
     have c4b0 : decide (x5_1 < (l0.length : Int)) = false := decide_eq_false c4
     clear c4
     obtain rfl := Option.some.inj H
     go_wp2
     repeat (go_quiet (fail); try go_wp2)
     go_ret
     exact ⟨by first | rfl | (simp; done) | (simp [*]; done), by repeat (first | exact Drawn0.refl _ | apply Drawn0.step)⟩
 ·rw [if_neg c3] at H
  have c3b0 : ((l0.length : Int) == (l1.length : Int)) = false := beq_eq_false_iff_ne.mpr c3
  have c3b1 : ((l0.length : Int) != (l1.length : Int)) = true := bne_iff_ne.mpr c3
  have c3b2 : (l0.length == l1.length) = false := by first | simpa using c3 | (simp at c3 ⊢; omega)
  obtain rfl := Option.some.inj H
  go_enter Try.func22, Try.ntmps22
  go_wp2
  go_ret
  exact ⟨by first | rfl | (simp; done) | (simp [*]; done), by repeat (first | exact Drawn0.refl _ | apply Drawn0.step)⟩


/-! ### laws_FnExactRunLaid: function 5 -/
def laws_FnExactRunLaid.j0 : Nat → List (S65) → List Int → List (S63) → List Int → Bool → Option (Bool)
 | 0, _, _, _, _, _ => none
 | k + 1, x1, x2, x10, x11, x49 => if x49 = true then (some false) else ((laws_toNodeS.f k x1).bind fun t556 => ((laws_eqNodeS.f k x10 t556).bind fun t559 => (if t559 = true then ((laws_toUint64S.f k x2).bind fun t560 => ((laws_eqUint64S.f k x11 t560).bind fun t563 => (if t563 = true then (some true) else (some false)))) else (some false))))
def laws_FnExactRunLaid.f (k : Nat) (a0 : Int) (l1 : List (S65)) (l2 : List Int) : Option (Bool) := if (l2.length : Int) > 1048576 then (some true) else ((laws_szNodeS.f l1 1048576).bind fun t539 => (if t539 < 0 then (some true) else ((laws_toNodeS.f k l1).bind fun t540 => ((laws_toUint64S.f k l2).bind fun t543 => ((spec_RunLaid.f k a0 t540 t543).bind fun bt546 => ((laws_toNodeS.f k l1).bind fun t548 => ((laws_toUint64S.f k l2).bind fun t551 => ((impl_RunLaid.f k a0 t548 t551).bind fun bt554 => (if bt554.1 = bt546.1 then (laws_FnExactRunLaid.j0 k l1 l2 t548 t551 (bt554.2 != bt546.2)) else (laws_FnExactRunLaid.j0 k l1 l2 t548 t551 true))))))))))
theorem laws_FnExactRunLaid.mono_l : ∀ k, (∀ y0 y1 y2 y3 y4, LeO (laws_FnExactRunLaid.j0 k y0 y1 y2 y3 y4) (laws_FnExactRunLaid.j0 (k + 1) y0 y1 y2 y3 y4))
 | 0 => fun _ _ _ _ _ r h => by simp [laws_FnExactRunLaid.j0] at h
 | k + 1 => by
  have ih0 := laws_FnExactRunLaid.mono_l k
  ·intro y0 y1 y2 y3 y4
   unfold laws_FnExactRunLaid.j0
   repeat' first
   | (with_reducible exact ih0 _ _ _ _ _)
   | (with_reducible exact impl_RunLaid.mono _ _ _ _)
   | (with_reducible exact laws_eqNodeS.mono _ _ _)
   | (with_reducible exact laws_eqUint64S.mono _ _ _)
   | (with_reducible exact laws_toNodeS.mono _ _)
   | (with_reducible exact laws_toUint64S.mono _ _)
   | (with_reducible exact spec_RunLaid.mono _ _ _ _)
   | (with_reducible first | exact LeO.refl _ | exact LeO.none _ | refine LeO.ite ?_ ?_ | refine LeO.bind ?_ (fun _ => ?_))
   | exact ih0 _ _ _ _ _
   | exact impl_RunLaid.mono _ _ _ _
   | exact laws_eqNodeS.mono _ _ _
   | exact laws_eqUint64S.mono _ _ _
   | exact laws_toNodeS.mono _ _
   | exact laws_toUint64S.mono _ _
   | exact spec_RunLaid.mono _ _ _ _
   | exact LeO.none _ | refine LeO.ite ?_ ?_ | refine LeO.bind ?_ (fun _ => ?_)
theorem laws_FnExactRunLaid.mono : ∀ a0 a1 a2 k, LeO (laws_FnExactRunLaid.f k a0 a1 a2) (laws_FnExactRunLaid.f (k + 1) a0 a1 a2) := by
 intro a0 a1 a2 k
 have ih0 := laws_FnExactRunLaid.mono_l k
 unfold laws_FnExactRunLaid.f
 repeat' first
   | (with_reducible exact ih0 _ _ _ _ _)
   | (with_reducible exact impl_RunLaid.mono _ _ _ _)
   | (with_reducible exact laws_eqNodeS.mono _ _ _)
   | (with_reducible exact laws_eqUint64S.mono _ _ _)
   | (with_reducible exact laws_toNodeS.mono _ _)
   | (with_reducible exact laws_toUint64S.mono _ _)
   | (with_reducible exact spec_RunLaid.mono _ _ _ _)
   | (with_reducible first | exact LeO.refl _ | exact LeO.none _ | refine LeO.ite ?_ ?_ | refine LeO.bind ?_ (fun _ => ?_))
   | exact ih0 _ _ _ _ _
   | exact impl_RunLaid.mono _ _ _ _
   | exact laws_eqNodeS.mono _ _ _
   | exact laws_eqUint64S.mono _ _ _
   | exact laws_toNodeS.mono _ _
   | exact laws_toUint64S.mono _ _
   | exact spec_RunLaid.mono _ _ _ _
   | exact LeO.none _ | refine LeO.ite ?_ ?_ | refine LeO.bind ?_ (fun _ => ?_)
set_option maxHeartbeats 8000000 in
set_option maxRecDepth 100000 in
theorem laws_FnExactRunLaid.calls (k : Nat) (a0 : Int) (A1 : Option Addr) (c1 : Nat) (l1 : List (S65)) (A2 : Option Addr) (c2 : Nat) (l2 : List Int) (r : Bool) (w : World) (hr1 : Kd.C k65 w A1 l1.length l1) (hc1 : l1.length ≤ c1) (hr2 : Kd.C (Kd.int .u64) w A2 l2.length l2) (hc2 : l2.length ≤ c2) (h : laws_FnExactRunLaid.f k a0 l1 l2 = some true) :
  Calls Try.prog 5 #[.int .i64 a0, .slice A1 l1.length c1, .slice A2 l2.length c2] w fun e w' => e = .returned (.bool true) ∧ Below w.heap.size w w' := by
 have HR1 := Aside0.mk hr1
 have HC1 := Aside0.mk hc1
 clear hr1 hc1
 have HR2 := Aside0.mk hr2
 have HC2 := Aside0.mk hc2
 clear hr2 hc2
 have HB := Aside0.mk (Below.refl w.heap.size w)
 have H : (if (l2.length : Int) > 1048576 then (some true) else ((laws_szNodeS.f l1 1048576).bind fun t539 => (if t539 < 0 then (some true) else ((laws_toNodeS.f k l1).bind fun t540 => ((laws_toUint64S.f k l2).bind fun t543 => ((spec_RunLaid.f k a0 t540 t543).bind fun bt546 => ((laws_toNodeS.f k l1).bind fun t548 => ((laws_toUint64S.f k l2).bind fun t551 => ((impl_RunLaid.f k a0 t548 t551).bind fun bt554 => (if bt554.1 = bt546.1 then (laws_FnExactRunLaid.j0 k l1 l2 t548 t551 (bt554.2 != bt546.2)) else (laws_FnExactRunLaid.j0 k l1 l2 t548 t551 true))))))))))) = some true := h
 clear h
 by_cases c4 : (l2.length : Int) > 1048576
 ·rw [if_pos c4] at H
  have c4b0 : decide (1048576 < (l2.length : Int)) = true := decide_eq_true c4
  have c4b1 : decide (1048576 < l2.length) = true := decide_eq_true (by omega)
  clear c4
  go_enter Try.func5, Try.ntmps5
  go_wp2
  go_ret
  exact ⟨qE, qB⟩
 ·rw [if_neg c4] at H
  have c4b0 : decide (1048576 < (l2.length : Int)) = false := decide_eq_false c4
  have c4b1 : decide (1048576 < l2.length) = false := decide_eq_false (by omega)
  clear c4
  replace H := Option.bind_eq_some_iff.mp H
  obtain ⟨t539, A50, H⟩ := H
  replace H : (if t539 < 0 then (some true) else ((laws_toNodeS.f k l1).bind fun t540 => ((laws_toUint64S.f k l2).bind fun t543 => ((spec_RunLaid.f k a0 t540 t543).bind fun bt546 => ((laws_toNodeS.f k l1).bind fun t548 => ((laws_toUint64S.f k l2).bind fun t551 => ((impl_RunLaid.f k a0 t548 t551).bind fun bt554 => (if bt554.1 = bt546.1 then (laws_FnExactRunLaid.j0 k l1 l2 t548 t551 (bt554.2 != bt546.2)) else (laws_FnExactRunLaid.j0 k l1 l2 t548 t551 true))))))))) = some true := H
  have A5 := Aside0.mk A50
  clear A50
  by_cases c6 : t539 < 0
  ·rw [if_pos c6] at H
   have c6b0 : decide (t539 < 0) = true := decide_eq_true c6
   clear c6
   go_enter Try.func5, Try.ntmps5
   go_wp2_with (first | ((with_reducible refine gate_callee (f := 8) rfl ?_); refine goesL_ (some 19) rfl rfl Try.func8 (by kernel_rfl) rfl #[.slice A1 l1.length c1, .int .i64 1048576] rfl qG ?_; (with_reducible refine (laws_szNodeS.calls _ _ l1 1048576 t539 _ ?side1 ?side2 A5.out).mono ?_); (case side1 => exact qC HR1.out); (case side2 => exact HC1.out); rintro e w' ⟨rfl, ⟨nd, rfl⟩⟩; refine ⟨_, rfl, ?_⟩))
   go_ret
   exact ⟨qE, qB⟩
  ·rw [if_neg c6] at H
   have c6b0 : decide (t539 < 0) = false := decide_eq_false c6
   clear c6
   replace H := Option.bind_eq_some_iff.mp H
   obtain ⟨t540, A70, H⟩ := H
   replace H : ((laws_toUint64S.f k l2).bind fun t543 => ((spec_RunLaid.f k a0 t540 t543).bind fun bt546 => ((laws_toNodeS.f k l1).bind fun t548 => ((laws_toUint64S.f k l2).bind fun t551 => ((impl_RunLaid.f k a0 t548 t551).bind fun bt554 => (if bt554.1 = bt546.1 then (laws_FnExactRunLaid.j0 k l1 l2 t548 t551 (bt554.2 != bt546.2)) else (laws_FnExactRunLaid.j0 k l1 l2 t548 t551 true))))))) = some true := H
   have A7 := Aside0.mk A70
   clear A70
   replace H := Option.bind_eq_some_iff.mp H
   obtain ⟨t543, A80, H⟩ := H
   replace H : ((spec_RunLaid.f k a0 t540 t543).bind fun bt546 => ((laws_toNodeS.f k l1).bind fun t548 => ((laws_toUint64S.f k l2).bind fun t551 => ((impl_RunLaid.f k a0 t548 t551).bind fun bt554 => (if bt554.1 = bt546.1 then (laws_FnExactRunLaid.j0 k l1 l2 t548 t551 (bt554.2 != bt546.2)) else (laws_FnExactRunLaid.j0 k l1 l2 t548 t551 true)))))) = some true := H
   have A8 := Aside0.mk A80
   clear A80
   replace H := Option.bind_eq_some_iff.mp H
   obtain ⟨⟨t546, t547⟩, A90, H⟩ := H
   replace H : ((laws_toNodeS.f k l1).bind fun t548 => ((laws_toUint64S.f k l2).bind fun t551 => ((impl_RunLaid.f k a0 t548 t551).bind fun bt554 => (if bt554.1 = t546 then (laws_FnExactRunLaid.j0 k l1 l2 t548 t551 (bt554.2 != t547)) else (laws_FnExactRunLaid.j0 k l1 l2 t548 t551 true))))) = some true := H
   have A9 := Aside0.mk A90
   clear A90
   replace H := Option.bind_eq_some_iff.mp H
   obtain ⟨t548, A100, H⟩ := H
   replace H : ((laws_toUint64S.f k l2).bind fun t551 => ((impl_RunLaid.f k a0 t548 t551).bind fun bt554 => (if bt554.1 = t546 then (laws_FnExactRunLaid.j0 k l1 l2 t548 t551 (bt554.2 != t547)) else (laws_FnExactRunLaid.j0 k l1 l2 t548 t551 true)))) = some true := H
   have A10 := Aside0.mk A100
   clear A100
   replace H := Option.bind_eq_some_iff.mp H
   obtain ⟨t551, A110, H⟩ := H
   replace H : ((impl_RunLaid.f k a0 t548 t551).bind fun bt554 => (if bt554.1 = t546 then (laws_FnExactRunLaid.j0 k l1 l2 t548 t551 (bt554.2 != t547)) else (laws_FnExactRunLaid.j0 k l1 l2 t548 t551 true))) = some true := H
   have A11 := Aside0.mk A110
   clear A110
   replace H := Option.bind_eq_some_iff.mp H
   obtain ⟨⟨t554, t555⟩, A120, H⟩ := H
   replace H : (if t554 = t546 then (laws_FnExactRunLaid.j0 k l1 l2 t548 t551 (t555 != t547)) else (laws_FnExactRunLaid.j0 k l1 l2 t548 t551 true)) = some true := H
   have A12 := Aside0.mk A120
   clear A120
   have HC13 := Aside0.mk H
   clear H
   go_enter Try.func5, Try.ntmps5
   go_upto_region 11 with (first | ((with_reducible refine gate_callee (f := 8) rfl ?_); refine goesL_ (some 19) rfl rfl Try.func8 (by kernel_rfl) rfl #[.slice A1 l1.length c1, .int .i64 1048576] rfl qG ?_; (with_reducible refine (laws_szNodeS.calls _ _ l1 1048576 t539 _ ?side1 ?side2 A5.out).mono ?_); (case side1 => exact qC HR1.out); (case side2 => exact HC1.out); rintro e w' ⟨rfl, ⟨nd, rfl⟩⟩; refine ⟨_, rfl, ?_⟩) | ((with_reducible refine gate_callee (f := 10) rfl ?_); refine goesL_ (some 25) rfl rfl Try.func10 (by kernel_rfl) rfl #[.slice A1 l1.length c1] rfl qG ?_; (with_reducible refine (laws_toNodeS.calls k _ _ l1 t540 _ ?side1 ?side2 A7.out).mono ?_); (case side1 => exact qC HR1.out); (case side2 => exact HC1.out); rintro e w14 ⟨v541, rfl, ho0, hb⟩; refine ⟨_, rfl, ?_⟩; have n0_ := Aside0.mk (Kd.R_lower ho0 (below_size (qB))); have n1_ := Aside0.mk (below_step (qB) hb); clear HB; have HO542 := n0_; have HB := n1_; clear n0_ n1_; (try clear hb); (try clear hb2); (try clear hk); (try clear hi); (try clear ho0)) | ((with_reducible refine gate_callee (f := 20) rfl ?_); refine goesL_ (some 27) rfl rfl Try.func20 (by kernel_rfl) rfl #[.slice A2 l2.length c2] rfl qG ?_; (with_reducible refine (laws_toUint64S.calls k _ _ l2 t543 _ ?side1 ?side2 A8.out).mono ?_); (case side1 => exact qC (Kd.C_below HR2.out HB.out)); (case side2 => exact HC2.out); rintro e w15 ⟨v544, rfl, ho0, hb⟩; refine ⟨_, rfl, ?_⟩; have n0_ := Aside0.mk (Kd.R_below (qR HO542.out) hb); have n1_ := Aside0.mk (Kd.R_lower ho0 (below_size (qB))); have n2_ := Aside0.mk (below_step (qB) hb); clear HO542; clear HB; have HO542 := n0_; have HO545 := n1_; have HB := n2_; clear n0_ n1_ n2_; (try clear hb); (try clear hb2); (try clear hk); (try clear hi); (try clear ho0); obtain ⟨Ao16, co16, eo16⟩ := Kd.R_slice HO542.out; subst eo16; obtain ⟨Ao17, co17, eo17⟩ := Kd.R_slice HO545.out; subst eo17) | ((with_reducible refine gate_callee (f := 19) rfl ?_); refine goesL_ (some 28) rfl rfl Try.func19 (by kernel_rfl) rfl #[.int .i64 a0, .slice Ao16 t540.length co16, .slice Ao17 t543.length co17] rfl qG ?_; (with_reducible refine (spec_RunLaid.calls k a0 _ _ t540 _ _ t543 t546 t547 _ ?side1 ?side2 ?side3 ?side4 A9.out).mono ?_); (case side1 => repeat (first | exact (Kd.R_reads' HO542.out).2.2 | (with_reducible refine Kd.C_alloc ?_ _) | (with_reducible refine Kd.C_drewN ?_ _) | (with_reducible refine Kd.C_drew ?_))); (case side2 => exact (Kd.R_reads' HO542.out).2.1); (case side3 => repeat (first | exact (Kd.R_reads' HO545.out).2.2 | (with_reducible refine Kd.C_alloc ?_ _) | (with_reducible refine Kd.C_drewN ?_ _) | (with_reducible refine Kd.C_drew ?_))); (case side4 => exact (Kd.R_reads' HO545.out).2.1); rintro e w18 ⟨rfl, hb⟩; refine ⟨_, rfl, ?_⟩; have n0_ := Aside0.mk (Kd.R_below (qR HO542.out) hb); have n1_ := Aside0.mk (Kd.R_below (qR HO545.out) hb); have n2_ := Aside0.mk (below_step (qB) hb); clear HO542; clear HO545; clear HB; have HO542 := n0_; have HO545 := n1_; have HB := n2_; clear n0_ n1_ n2_; (try clear hb); (try clear hb2); (try clear hk); (try clear hi)) | ((with_reducible refine gate_callee (f := 10) rfl ?_); refine goesL_ (some 32) rfl rfl Try.func10 (by kernel_rfl) rfl #[.slice A1 l1.length c1] rfl qG ?_; (with_reducible refine (laws_toNodeS.calls k _ _ l1 t548 _ ?side1 ?side2 A10.out).mono ?_); (case side1 => exact qC (Kd.C_below HR1.out HB.out)); (case side2 => exact HC1.out); rintro e w19 ⟨v549, rfl, ho0, hb⟩; refine ⟨_, rfl, ?_⟩; have n0_ := Aside0.mk (Kd.R_elder' (qR HO542.out) (Kd.R_base ho0) hb); have n1_ := Aside0.mk (Kd.R_below (qR HO545.out) hb); have n2_ := Aside0.mk (Kd.R_lower (Kd.R_new' ho0 (Kd.R_lt (qR HO542.out))) (below_size (qB))); have n3_ := Aside0.mk (below_step (qB) hb); clear HO542; clear HO545; clear HB; have HO542 := n0_; have HO545 := n1_; have HO550 := n2_; have HB := n3_; clear n0_ n1_ n2_ n3_; (try clear hb); (try clear hb2); (try clear hk); (try clear hi); (try clear ho0)) | ((with_reducible refine gate_callee (f := 20) rfl ?_); refine goesL_ (some 34) rfl rfl Try.func20 (by kernel_rfl) rfl #[.slice A2 l2.length c2] rfl qG ?_; (with_reducible refine (laws_toUint64S.calls k _ _ l2 t551 _ ?side1 ?side2 A11.out).mono ?_); (case side1 => exact qC (Kd.C_below HR2.out HB.out)); (case side2 => exact HC2.out); rintro e w20 ⟨v552, rfl, ho0, hb⟩; refine ⟨_, rfl, ?_⟩; have n0_ := Aside0.mk (Kd.R_below (qR HO542.out) hb); have n1_ := Aside0.mk (Kd.R_elder' (qR HO545.out) (Kd.R_base ho0) hb); have n2_ := Aside0.mk (Kd.R_below (qR HO550.out) hb); have n3_ := Aside0.mk (Kd.R_lower (Kd.R_new' ho0 (Kd.R_lt (qR HO545.out))) (below_size (qB))); have n4_ := Aside0.mk (below_step (qB) hb); clear HO542; clear HO545; clear HO550; clear HB; have HO542 := n0_; have HO545 := n1_; have HO550 := n2_; have HO553 := n3_; have HB := n4_; clear n0_ n1_ n2_ n3_ n4_; (try clear hb); (try clear hb2); (try clear hk); (try clear hi); (try clear ho0); obtain ⟨Ao21, co21, eo21⟩ := Kd.R_slice HO550.out; subst eo21; obtain ⟨Ao22, co22, eo22⟩ := Kd.R_slice HO553.out; subst eo22) | ((with_reducible refine gate_callee (f := 21) rfl ?_); refine goesL_ (some 39) rfl rfl Try.func21 (by kernel_rfl) rfl #[.int .i64 a0, .slice Ao21 t548.length co21, .slice Ao22 t551.length co22] rfl qG ?_; (with_reducible refine (impl_RunLaid.calls k a0 _ _ t548 _ _ t551 t554 t555 _ ?side1 ?side2 ?side3 ?side4 A12.out).mono ?_); (case side1 => repeat (first | exact (Kd.R_reads' HO550.out).2.2 | (with_reducible refine Kd.C_alloc ?_ _) | (with_reducible refine Kd.C_drewN ?_ _) | (with_reducible refine Kd.C_drew ?_))); (case side2 => exact (Kd.R_reads' HO550.out).2.1); (case side3 => repeat (first | exact (Kd.R_reads' HO553.out).2.2 | (with_reducible refine Kd.C_alloc ?_ _) | (with_reducible refine Kd.C_drewN ?_ _) | (with_reducible refine Kd.C_drew ?_))); (case side4 => exact (Kd.R_reads' HO553.out).2.1); rintro e w23 ⟨rfl, hb⟩; refine ⟨_, rfl, ?_⟩; have n0_ := Aside0.mk (Kd.R_below (qR HO542.out) hb); have n1_ := Aside0.mk (Kd.R_below (qR HO545.out) hb); have n2_ := Aside0.mk (Kd.R_below (qR HO550.out) hb); have n3_ := Aside0.mk (Kd.R_below (qR HO553.out) hb); have n4_ := Aside0.mk (below_step (qB) hb); clear HO542; clear HO545; clear HO550; clear HO553; clear HB; have HO542 := n0_; have HO545 := n1_; have HO550 := n2_; have HO553 := n3_; have HB := n4_; clear n0_ n1_ n2_ n3_ n4_; (try clear hb); (try clear hb2); (try clear hk); (try clear hi)))
   (try simp only [Act.put, List.setIfInBounds_toArray, List.set_cons_zero, List.set_cons_succ])
   go_cut [49] (fun v49 wc => ∃ (kq : Nat) (x49_12 : Bool), v49 = .bool x49_12 ∧ Aside0 (laws_FnExactRunLaid.j0 kq l1 l2 t548 t551 x49_12 = some true) ∧ Aside0 (kq ≤ k) ∧ Aside0 (Kd.R k63 63 wc w.heap.size (fun _ => True) (.slice Ao21 t548.length co21) t548) ∧ Aside0 (Kd.R (Kd.int .u64) 40 wc w.heap.size (fun _ => True) (.slice Ao22 t551.length co22) t551) ∧ Aside0 (Below w.heap.size w wc))
   case first =>
    have H := HC13.out
    clear HC13
    by_cases c24 : t554 = t546
    ·rw [if_pos c24] at H
     have c24b0 : (t554 == t546) = true := beq_iff_eq.mpr c24
     have c24b1 : (t554 != t546) = false := bne_eq_false_iff_eq.mpr c24
     clear c24
     (first | rw [c24b0] | (simp only [i64_w, i32_w]; rw [c24b0]) | skip)
     have H' := Aside0.mk H
     clear H
     go_wp2
     go_meet
     case rel => exact ⟨_, ((t555 != t547)), qS, H', ⟨by first | omega | exact Nat.le_refl _⟩, ⟨by (with_reducible repeat (first | apply Kd.R_alloc | apply Kd.R_drewN | apply Kd.R_drew)); exact Kd.R_mono HO550.out (fun _ hk => trivial)⟩, ⟨by (with_reducible repeat (first | apply Kd.R_alloc | apply Kd.R_drewN | apply Kd.R_drew)); exact Kd.R_mono HO553.out (fun _ hk => trivial)⟩, ⟨qB⟩⟩
    ·rw [if_neg c24] at H
     exact absurd H (by cases k <;> simp [laws_FnExactRunLaid.j0])
   case rest =>
    clear HC13
    try clear c1
    try clear c2
    try clear p2
    try clear c4
    try clear c4b0
    try clear c4b1
    try clear c5
    try clear c6
    try clear c6b0
    try clear c8
    try clear c10
    try clear c19
    try clear c20
    try clear c21
    try clear c24
    try clear c24b0
    try clear c24b1
    obtain ⟨kq, x49_12, rfl, HA, HJ12, HO_10, HO_11, HB⟩ := hcut
    cases kq with
    | zero => exact absurd HA.out (by simp [laws_FnExactRunLaid.j0])
    | succ kj12 =>
     have H := HA.out
     clear HA
     simp only [laws_FnExactRunLaid.j0] at H
     by_cases c25 : x49_12 = true
     ·subst c25
      have H1 : (some false) = some true := by rw [if_pos rfl] at H; exact H
      exact absurd H1 (by simp)
     ·replace c25 := Bool.eq_false_iff.mpr c25
      subst c25
      have H1 : ((laws_toNodeS.f kj12 l1).bind fun t556 => ((laws_eqNodeS.f kj12 t548 t556).bind fun t559 => (if t559 = true then ((laws_toUint64S.f kj12 l2).bind fun t560 => ((laws_eqUint64S.f kj12 t551 t560).bind fun t563 => (if t563 = true then (some true) else (some false)))) else (some false)))) = some true := by rw [if_neg (show ¬ (false = true) by decide)] at H; exact H
      clear H
      have H := H1
      clear H1
      replace H := Option.bind_eq_some_iff.mp H
      obtain ⟨t556, A260, H⟩ := H
      replace H : ((laws_eqNodeS.f kj12 t548 t556).bind fun t559 => (if t559 = true then ((laws_toUint64S.f kj12 l2).bind fun t560 => ((laws_eqUint64S.f kj12 t551 t560).bind fun t563 => (if t563 = true then (some true) else (some false)))) else (some false))) = some true := H
      have A26 := Aside0.mk A260
      clear A260
      replace H := Option.bind_eq_some_iff.mp H
      obtain ⟨t559, A270, H⟩ := H
      replace H : (if t559 = true then ((laws_toUint64S.f kj12 l2).bind fun t560 => ((laws_eqUint64S.f kj12 t551 t560).bind fun t563 => (if t563 = true then (some true) else (some false)))) else (some false)) = some true := H
      have A27 := Aside0.mk A270
      clear A270
      by_cases c28 : t559 = true
      ·subst c28
       have H1 : ((laws_toUint64S.f kj12 l2).bind fun t560 => ((laws_eqUint64S.f kj12 t551 t560).bind fun t563 => (if t563 = true then (some true) else (some false)))) = some true := by rw [if_pos rfl] at H; exact H
       clear H
       have H := H1
       clear H1
       replace H := Option.bind_eq_some_iff.mp H
       obtain ⟨t560, A290, H⟩ := H
       replace H : ((laws_eqUint64S.f kj12 t551 t560).bind fun t563 => (if t563 = true then (some true) else (some false))) = some true := H
       have A29 := Aside0.mk A290
       clear A290
       replace H := Option.bind_eq_some_iff.mp H
       obtain ⟨t563, A300, H⟩ := H
       replace H : (if t563 = true then (some true) else (some false)) = some true := H
       have A30 := Aside0.mk A300
       clear A300
       by_cases c31 : t563 = true
       ·subst c31
        have H1 : (some true) = some true := rfl
        clear H
        have H := H1
        clear H1
        go_wp2_with (first | ((with_reducible refine gate_callee (f := 10) rfl ?_); refine goesL_ (some 52) rfl rfl Try.func10 (by kernel_rfl) rfl #[.slice A1 l1.length c1] rfl qG ?_; (with_reducible refine (laws_toNodeS.calls kj12 _ _ l1 t556 _ ?side1 ?side2 A26.out).mono ?_); (case side1 => exact qC (Kd.C_below HR1.out HB.out)); (case side2 => exact HC1.out); rintro e w32 ⟨v557, rfl, ho0, hb⟩; refine ⟨_, rfl, ?_⟩; have n0_ := Aside0.mk (Kd.R_elder' (qR HO_10.out) (Kd.R_base ho0) hb); have n1_ := Aside0.mk (Kd.R_below (qR HO_11.out) hb); have n2_ := Aside0.mk (Kd.R_lower (Kd.R_new' ho0 (Kd.R_lt (qR HO_10.out))) (below_size (qB))); have n3_ := Aside0.mk (below_step (qB) hb); clear HO_10; clear HO_11; clear HB; have HO_10 := n0_; have HO_11 := n1_; have HO558 := n2_; have HB := n3_; clear n0_ n1_ n2_ n3_; (try clear hb); (try clear hb2); (try clear hk); (try clear hi); (try clear ho0); obtain ⟨Ao33, co33, eo33⟩ := Kd.R_slice HO558.out; subst eo33) | ((with_reducible refine gate_callee (f := 13) rfl ?_); refine goesL_ (some 53) rfl rfl Try.func13 (by kernel_rfl) rfl #[.slice Ao21 t548.length co21, .slice Ao33 t556.length co33] rfl qG ?_; (with_reducible refine (laws_eqNodeS.calls kj12 _ _ t548 _ _ t556 true _ ?side1 ?side2 ?side3 ?side4 A27.out).mono ?_); (case side1 => repeat (first | exact (Kd.R_reads' HO_10.out).2.2 | (with_reducible refine Kd.C_alloc ?_ _) | (with_reducible refine Kd.C_drewN ?_ _) | (with_reducible refine Kd.C_drew ?_))); (case side2 => exact (Kd.R_reads' HO_10.out).2.1); (case side3 => repeat (first | exact (Kd.R_reads' HO558.out).2.2 | (with_reducible refine Kd.C_alloc ?_ _) | (with_reducible refine Kd.C_drewN ?_ _) | (with_reducible refine Kd.C_drew ?_))); (case side4 => exact (Kd.R_reads' HO558.out).2.1); rintro e w34 ⟨rfl, hb⟩; refine ⟨_, rfl, ?_⟩; have n0_ := Aside0.mk (Kd.R_below (qR HO_10.out) hb); have n1_ := Aside0.mk (Kd.R_below (qR HO_11.out) hb); have n2_ := Aside0.mk (Kd.R_below (qR HO558.out) hb); have n3_ := Aside0.mk (below_step (qB) hb); clear HO_10; clear HO_11; clear HO558; clear HB; have HO_10 := n0_; have HO_11 := n1_; have HO558 := n2_; have HB := n3_; clear n0_ n1_ n2_ n3_; (try clear hb); (try clear hb2); (try clear hk); (try clear hi)) | ((with_reducible refine gate_callee (f := 20) rfl ?_); refine goesL_ (some 57) rfl rfl Try.func20 (by kernel_rfl) rfl #[.slice A2 l2.length c2] rfl qG ?_; (with_reducible refine (laws_toUint64S.calls kj12 _ _ l2 t560 _ ?side1 ?side2 A29.out).mono ?_); (case side1 => exact qC (Kd.C_below HR2.out HB.out)); (case side2 => exact HC2.out); rintro e w35 ⟨v561, rfl, ho0, hb⟩; refine ⟨_, rfl, ?_⟩; have n0_ := Aside0.mk (Kd.R_below (qR HO_10.out) hb); have n1_ := Aside0.mk (Kd.R_elder' (qR HO_11.out) (Kd.R_base ho0) hb); have n2_ := Aside0.mk (Kd.R_below (qR HO558.out) hb); have n3_ := Aside0.mk (Kd.R_lower (Kd.R_new' ho0 (Kd.R_lt (qR HO_11.out))) (below_size (qB))); have n4_ := Aside0.mk (below_step (qB) hb); clear HO_10; clear HO_11; clear HO558; clear HB; have HO_10 := n0_; have HO_11 := n1_; have HO558 := n2_; have HO562 := n3_; have HB := n4_; clear n0_ n1_ n2_ n3_ n4_; (try clear hb); (try clear hb2); (try clear hk); (try clear hi); (try clear ho0); obtain ⟨Ao36, co36, eo36⟩ := Kd.R_slice HO562.out; subst eo36) | ((with_reducible refine gate_callee (f := 22) rfl ?_); refine goesL_ (some 58) rfl rfl Try.func22 (by kernel_rfl) rfl #[.slice Ao22 t551.length co22, .slice Ao36 t560.length co36] rfl qG ?_; (with_reducible refine (laws_eqUint64S.calls kj12 _ _ t551 _ _ t560 true _ ?side1 ?side2 ?side3 ?side4 A30.out).mono ?_); (case side1 => repeat (first | exact (Kd.R_reads' HO_11.out).2.2 | (with_reducible refine Kd.C_alloc ?_ _) | (with_reducible refine Kd.C_drewN ?_ _) | (with_reducible refine Kd.C_drew ?_))); (case side2 => exact (Kd.R_reads' HO_11.out).2.1); (case side3 => repeat (first | exact (Kd.R_reads' HO562.out).2.2 | (with_reducible refine Kd.C_alloc ?_ _) | (with_reducible refine Kd.C_drewN ?_ _) | (with_reducible refine Kd.C_drew ?_))); (case side4 => exact (Kd.R_reads' HO562.out).2.1); rintro e w' ⟨rfl, ⟨nd, rfl⟩⟩; refine ⟨_, rfl, ?_⟩))
        go_ret
        exact ⟨qE, qB⟩
       ·replace c31 := Bool.eq_false_iff.mpr c31
        subst c31
        have H1 : (some false) = some true := by rw [if_neg (show ¬ (false = true) by decide)] at H; exact H
        exact absurd H1 (by simp)
      ·replace c28 := Bool.eq_false_iff.mpr c28
       subst c28
       have H1 : (some false) = some true := by rw [if_neg (show ¬ (false = true) by decide)] at H; exact H
       exact absurd H1 (by simp)
/-- THE PURE STATEMENT of laws_FnExactRunLaid. -/
def laws_FnExactRunLaid.Pure : Prop := ∀ (a0 : Int) (l1 : List (S65)) (l2 : List Int), (Lit.int .i64 a0).wf = true → ((l1).length ≤ maxLen ∧ ∀ y ∈ l1, wf65 y) → ((l2).length ≤ maxLen ∧ ∀ y ∈ l2, (Lit.int .u64 y).wf = true) → ∃ k, laws_FnExactRunLaid.f k a0 l1 l2 = some true
theorem laws_FnExactRunLaid.walk (P : laws_FnExactRunLaid.Pure) (a0 : Int) (A1 : Option Addr) (c1 : Nat) (l1 : List (S65)) (A2 : Option Addr) (c2 : Nat) (l2 : List Int) (w : World) (hr1 : Kd.C k65 w A1 l1.length l1) (hc1 : l1.length ≤ c1) (hr2 : Kd.C (Kd.int .u64) w A2 l2.length l2) (hc2 : l2.length ≤ c2) (w0 : (Lit.int .i64 a0).wf = true) (w1 : ((l1).length ≤ maxLen ∧ ∀ y ∈ l1, wf65 y)) (w2 : ((l2).length ≤ maxLen ∧ ∀ y ∈ l2, (Lit.int .u64 y).wf = true)) :
  Calls Try.prog 5 #[.int .i64 a0, .slice A1 l1.length c1, .slice A2 l2.length c2] w fun e w' => e = .returned (.bool true) ∧ Below w.heap.size w w' := by
 obtain ⟨k, h⟩ := P a0 l1 l2 w0 w1 w2
 refine (laws_FnExactRunLaid.calls k a0 A1 c1 l1 A2 c2 l2 true w hr1 hc1 hr2 hc2 h).mono ?_
 rintro e w' ⟨rfl, hd⟩
 exact ⟨rfl, hd⟩


end Go.Proofs.Ytckgeanmljmhfaa.X
