/- Go functions as Lean functions, each with the proof that its call comes to just its answer. Conditions: the arguments are of their kinds. -/
import Derived.Test.YtimkjhdopncimaaX0
import Derived.Test.YtimkjhdopncimaaX5
import Derived.Test.YtimkjhdopncimaaX8
import Derived.Test.YtimkjhdopncimaaX25
namespace Go.Proofs.Ytimkjhdopncimaa.X
open Go.RowKit Go.Proofs.YtimkjhdopncimaaW.PrintWords Go.Proofs.YtimkjhdopncimaaW.PrintLast Go.Proofs.YtimkjhdopncimaaW.PrintMore
attribute [local go_sem] max2_int min2_int max_two min_two max_three min_three max_four min_four   -- for this text's walks alone
set_option linter.unusedVariables false
set_option linter.unusedSimpArgs false

/-! ### impl_ConeOf: function 26 -/
mutual
def impl_ConeOf.j0 : Nat → Int → Bool → Int → List (S59) → List Int → Option (List Int × Bool)
 | 0, _, _, _, _, _ => none
 | k + 1, x1, x19, x542000, x542001, x542002 => if x19 = true then (some (([] : List Int), false)) else ((impl_Circuit_coneOf.f x542000 x542001 x542002 (([x1] : List Int))).bind fun t554 => (impl_ConeOf.l0 k (([] : List Int)) t554 (t554.length : Int) 0))
def impl_ConeOf.l0 : Nat → List Int → List Bool → Int → Int → Option (List Int × Bool)
 | 0, _, _, _, _ => none
 | k + 1, x6, x24, x25, x26 => if x26 < x25 then (if 0 ≤ x26 then (if x26 < (x24.length : Int) then (if rdOf false x24 x26 = true then (if x6.length < 17592186044416 then (impl_ConeOf.l0 k (x6 ++ [x26]) x24 x25 (wrap64 (x26 + 1))) else (none)) else (impl_ConeOf.l0 k x6 x24 x25 (wrap64 (x26 + 1)))) else (none)) else (none)) else (some (x6, true))
end
def impl_ConeOf.f (k : Nat) (a0_0 : Int) (l0_1 : List (S59)) (l0_2 : List Int) (a1 : Int) : Option (List Int × Bool) := (impl_GoodCircuit.f k a0_0 l0_1 l0_2).bind fun t542 => (if t542 = true then ((impl_Circuit_wires.f a0_0 l0_1 l0_2).bind fun t546 => ((impl_areWiresBelow.f (([a1] : List Int)) t546).bind fun t547 => (impl_ConeOf.j0 k a1 (!t547) a0_0 l0_1 l0_2))) else (impl_ConeOf.j0 k a1 true a0_0 l0_1 l0_2))
theorem impl_ConeOf.mono_l : ∀ k, (∀ y0 y1 y2 y3 y4, LeO (impl_ConeOf.j0 k y0 y1 y2 y3 y4) (impl_ConeOf.j0 (k + 1) y0 y1 y2 y3 y4)) ∧ (∀ y0 y1 y2 y3, LeO (impl_ConeOf.l0 k y0 y1 y2 y3) (impl_ConeOf.l0 (k + 1) y0 y1 y2 y3))
 | 0 => ⟨fun _ _ _ _ _ r h => by simp [impl_ConeOf.j0] at h, fun _ _ _ _ r h => by simp [impl_ConeOf.l0] at h⟩
 | k + 1 => by
  obtain ⟨ih0, ih1⟩ := impl_ConeOf.mono_l k
  refine ⟨?_, ?_⟩
  ·intro y0 y1 y2 y3 y4
   unfold impl_ConeOf.j0
   repeat' first
   | (with_reducible exact ih0 _ _ _ _ _)
   | (with_reducible exact ih1 _ _ _ _)
   | (with_reducible exact impl_GoodCircuit.mono _ _ _ _)
   | (with_reducible first | exact LeO.refl _ | exact LeO.none _ | refine LeO.ite ?_ ?_ | refine LeO.bind ?_ (fun _ => ?_))
   | exact ih0 _ _ _ _ _
   | exact ih1 _ _ _ _
   | exact impl_GoodCircuit.mono _ _ _ _
   | exact LeO.none _ | refine LeO.ite ?_ ?_ | refine LeO.bind ?_ (fun _ => ?_)
  ·intro y0 y1 y2 y3
   unfold impl_ConeOf.l0
   repeat' first
   | (with_reducible exact ih0 _ _ _ _ _)
   | (with_reducible exact ih1 _ _ _ _)
   | (with_reducible exact impl_GoodCircuit.mono _ _ _ _)
   | (with_reducible first | exact LeO.refl _ | exact LeO.none _ | refine LeO.ite ?_ ?_ | refine LeO.bind ?_ (fun _ => ?_))
   | exact ih0 _ _ _ _ _
   | exact ih1 _ _ _ _
   | exact impl_GoodCircuit.mono _ _ _ _
   | exact LeO.none _ | refine LeO.ite ?_ ?_ | refine LeO.bind ?_ (fun _ => ?_)
theorem impl_ConeOf.mono : ∀ a0 a1 a2 a3 k, LeO (impl_ConeOf.f k a0 a1 a2 a3) (impl_ConeOf.f (k + 1) a0 a1 a2 a3) := by
 intro a0 a1 a2 a3 k
 obtain ⟨ih0, ih1⟩ := impl_ConeOf.mono_l k
 unfold impl_ConeOf.f
 repeat' first
   | (with_reducible exact ih0 _ _ _ _ _)
   | (with_reducible exact ih1 _ _ _ _)
   | (with_reducible exact impl_GoodCircuit.mono _ _ _ _)
   | (with_reducible first | exact LeO.refl _ | exact LeO.none _ | refine LeO.ite ?_ ?_ | refine LeO.bind ?_ (fun _ => ?_))
   | exact ih0 _ _ _ _ _
   | exact ih1 _ _ _ _
   | exact impl_GoodCircuit.mono _ _ _ _
   | exact LeO.none _ | refine LeO.ite ?_ ?_ | refine LeO.bind ?_ (fun _ => ?_)
set_option maxHeartbeats 8000000 in
set_option maxRecDepth 100000 in
theorem impl_ConeOf.calls (k : Nat) (a0_0 : Int) (A0_1 : Option Addr) (c0_1 : Nat) (l0_1 : List (S59)) (A0_2 : Option Addr) (c0_2 : Nat) (l0_2 : List Int) (a1 : Int) (r1 : List Int) (r2 : Bool) (w : World) (hr0_1 : Kd.C k59 w A0_1 l0_1.length l0_1) (hc0_1 : l0_1.length ≤ c0_1) (hr0_2 : Kd.C (Kd.int .i64) w A0_2 l0_2.length l0_2) (hc0_2 : l0_2.length ≤ c0_2) (h : impl_ConeOf.f k a0_0 l0_1 l0_2 a1 = some (r1, r2)) :
  Calls Try.prog 26 #[.agg #[.int .i64 a0_0, .slice A0_1 l0_1.length c0_1, .slice A0_2 l0_2.length c0_2], .int .i64 a1] w fun e w' => ∃ v0_ : Value, e = .returned (.tuple #[v0_, .bool r2]) ∧ Kd.R (Kd.int .i64) 3 w' w.heap.size (fun _ => True) v0_ r1 ∧ Below w.heap.size w w' := by
 have hu30 := Try.underlying30
 have HR0_1 := Aside0.mk hr0_1
 have HC0_1 := Aside0.mk hc0_1
 clear hr0_1 hc0_1
 have HR0_2 := Aside0.mk hr0_2
 have HC0_2 := Aside0.mk hc0_2
 clear hr0_2 hc0_2
 have HB := Aside0.mk (Below.refl w.heap.size w)
 have H : ((impl_GoodCircuit.f k a0_0 l0_1 l0_2).bind fun t542 => (if t542 = true then ((impl_Circuit_wires.f a0_0 l0_1 l0_2).bind fun t546 => ((impl_areWiresBelow.f (([a1] : List Int)) t546).bind fun t547 => (impl_ConeOf.j0 k a1 (!t547) a0_0 l0_1 l0_2))) else (impl_ConeOf.j0 k a1 true a0_0 l0_1 l0_2))) = some (r1, r2) := h
 clear h
 have HC3 := Aside0.mk H
 clear H
 go_enter Try.func26, Try.ntmps26
 go_upto_region 1 with (first | ((with_reducible refine gate_dst (N := 2) rfl ?_); (try (refine gate_guard (by rfl) ?_; dsimp only)); refine box_event ?hg (N := 2) ?hd (cs := #[.int .i64 a0_0, .slice A0_1 l0_1.length c0_1, .slice A0_2 l0_2.length c0_2]) (t := 30) ?hr ?_; (case hd => rfl); (case hg => rfl); (case hr => first | (go_simp; done) | (go_simp; rfl)); intro gb541 hg w4 hbox hb; have n0_ := Aside0.mk (below_step (qB) hb); have n1_ := Aside0.mk (hbox); have n2_ := Aside0.mk ((by rw [hg]; exact (below_size (qB)) : w.heap.size ≤ gb541)); have n3_ := Aside0.mk ((by rw [hg]; exact (below_size (qB)) : w.heap.size ≤ gb541)); clear HB; have HB := n0_; have BK541 := n1_; have GW541 := n2_; have GE541 := n3_; clear n0_ n1_ n2_ n3_; clear hb hbox hg))
 (try simp only [Act.put, List.setIfInBounds_toArray, List.set_cons_zero, List.set_cons_succ])
 go_cut [19] (fun v19 wc => ∃ (kq : Nat) (x19_2 : Bool), v19 = .bool x19_2 ∧ Aside0 (impl_ConeOf.j0 kq a1 x19_2 a0_0 l0_1 l0_2 = some (r1, r2)) ∧ Aside0 (kq ≤ k) ∧ Aside0 (wc.heap[gb541]? = some (.cells #[.int .i64 a0_0, (.slice A0_1 l0_1.length c0_1), (.slice A0_2 l0_2.length c0_2)] 30 (0, 0))) ∧ Aside0 (Below w.heap.size w wc))
 case first =>
  have H := HC3.out
  clear HC3
  replace H := Option.bind_eq_some_iff.mp H
  obtain ⟨t542, A50, H⟩ := H
  replace H : (if t542 = true then ((impl_Circuit_wires.f a0_0 l0_1 l0_2).bind fun t546 => ((impl_areWiresBelow.f (([a1] : List Int)) t546).bind fun t547 => (impl_ConeOf.j0 k a1 (!t547) a0_0 l0_1 l0_2))) else (impl_ConeOf.j0 k a1 true a0_0 l0_1 l0_2)) = some (r1, r2) := H
  have A5 := Aside0.mk A50
  clear A50
  by_cases c6 : t542 = true
  ·subst c6
   have H1 : ((impl_Circuit_wires.f a0_0 l0_1 l0_2).bind fun t546 => ((impl_areWiresBelow.f (([a1] : List Int)) t546).bind fun t547 => (impl_ConeOf.j0 k a1 (!t547) a0_0 l0_1 l0_2))) = some (r1, r2) := by rw [if_pos rfl] at H; exact H
   clear H
   have H := H1
   clear H1
   obtain ⟨y543, hy543⟩ : ∃ y_ : List Int, y_ = (([a1] : List Int)) := ⟨_, rfl⟩
   replace H : ((impl_Circuit_wires.f a0_0 l0_1 l0_2).bind fun t546 => ((impl_areWiresBelow.f y543 t546).bind fun t547 => (impl_ConeOf.j0 k a1 (!t547) a0_0 l0_1 l0_2))) = some (r1, r2) := qY hy543 H
   have Ny543 := Aside0.mk hy543
   clear hy543
   replace H := Option.bind_eq_some_iff.mp H
   obtain ⟨t546, A70, H⟩ := H
   replace H : ((impl_areWiresBelow.f y543 t546).bind fun t547 => (impl_ConeOf.j0 k a1 (!t547) a0_0 l0_1 l0_2)) = some (r1, r2) := H
   have A7 := Aside0.mk A70
   clear A70
   replace H := Option.bind_eq_some_iff.mp H
   obtain ⟨t547, A80, H⟩ := H
   replace H : (impl_ConeOf.j0 k a1 (!t547) a0_0 l0_1 l0_2) = some (r1, r2) := H
   have A8 := Aside0.mk A80
   clear A80
   have H' := Aside0.mk H
   clear H
   have hcz9_0 : w4.cell? ⟨gb541, 0, none⟩ = some (.int .i64 a0_0) := (blk_cell BK541.out 0).trans rfl
   have hcz9_1 : w4.cell? ⟨gb541, 1, none⟩ = some (.slice A0_1 l0_1.length c0_1) := (blk_cell BK541.out 1).trans rfl
   have hcz9_2 : w4.cell? ⟨gb541, 2, none⟩ = some (.slice A0_2 l0_2.length c0_2) := (blk_cell BK541.out 2).trans rfl
   have hfz9_0 := blk_frozen BK541.out 0
   have hfz9_1 := blk_frozen BK541.out 1
   have hfz9_2 := blk_frozen BK541.out 2
   go_wp2_with (first | ((with_reducible refine gate_callee (f := 14) rfl ?_); refine goesL_ (some 10) rfl rfl Try.func14 (by kernel_rfl) rfl #[.agg #[.int .i64 a0_0, .slice A0_1 l0_1.length c0_1, .slice A0_2 l0_2.length c0_2]] rfl qG ?_; (with_reducible refine (impl_GoodCircuit.calls k a0_0 _ _ l0_1 _ _ l0_2 true _ ?side1 ?side2 ?side3 ?side4 A5.out).mono ?_); (case side1 => exact qC (Kd.C_below HR0_1.out HB.out)); (case side2 => exact HC0_1.out); (case side3 => exact qC (Kd.C_below HR0_2.out HB.out)); (case side4 => exact HC0_2.out); rintro e w10 ⟨rfl, hb⟩; refine ⟨_, rfl, ?_⟩; have n0_ := Aside0.mk (blk_below (g := gb541) (o := .cells #[.int .i64 a0_0, .slice A0_1 l0_1.length c0_1, .slice A0_2 l0_2.length c0_2] 30 (0, 0)) (qK BK541.out) hb); have n1_ := Aside0.mk (below_step (qB) hb); clear BK541; clear HB; have BK541 := n0_; have HB := n1_; clear n0_ n1_; (try clear hb); (try clear hb2); (try clear hk); (try clear hi)) | ((with_reducible refine gate_dst (N := 14) rfl ?_); (try (refine gate_guard (by rfl) ?_; dsimp only)); refine Kd.R_lit (Kd.int .i64) _ 3 ?hg (N := 14) ?hd (xs := ([a1] : List Int)) (inner := [.int .i64 a1]) (ok := fun _ => True) (okp := fun _ => True) ?hr ?hp (fun _ hk => hk) trivial (Below.refl _ _) (Nat.le_refl _) (by simp) ?_; (case hd => rfl); (case hg => rfl); (case hr => first | (go_simp; done) | (go_simp; rfl)); (case hp => exact (Reps.one (show Kd.M (Kd.int .i64) _ _ _ a1 [.int .i64 a1] from rfl) (Reps.none _ _))); intro v544 w11 ho12 hb hg_ hnew_; clear hg_ hnew_; (first | rw [← Ny543.out] at ho12 | (simp only [Int.reduceToNat] at ho12; rw [← Ny543.out] at ho12)); have n0_ := Aside0.mk (Kd.R_lower ho12 (below_size (qB))); have n1_ := Aside0.mk (blk_below (g := gb541) (o := .cells #[.int .i64 a0_0, .slice A0_1 l0_1.length c0_1, .slice A0_2 l0_2.length c0_2] 30 (0, 0)) (qK BK541.out) hb); have n2_ := Aside0.mk (below_step (qB) hb); clear BK541; clear HB; have HO545 := n0_; have BK541 := n1_; have HB := n2_; clear n0_ n1_ n2_; clear hb ho12; have hcz13_0 : w11.cell? ⟨gb541, 0, none⟩ = some (.int .i64 a0_0) := (blk_cell BK541.out 0).trans rfl; have hcz13_1 : w11.cell? ⟨gb541, 1, none⟩ = some (.slice A0_1 l0_1.length c0_1) := (blk_cell BK541.out 1).trans rfl; have hcz13_2 : w11.cell? ⟨gb541, 2, none⟩ = some (.slice A0_2 l0_2.length c0_2) := (blk_cell BK541.out 2).trans rfl; have hfz13_0 := blk_frozen BK541.out 0; have hfz13_1 := blk_frozen BK541.out 1; have hfz13_2 := blk_frozen BK541.out 2) | (go_at_call 49; (with_reducible refine (impl_Circuit_wires.calls a0_0 _ _ l0_1 _ _ l0_2 t546 _ ?side1 ?side2 ?side3 ?side4 A7.out).mono ?_); (case side1 => exact qC (Kd.C_below HR0_1.out HB.out)); (case side2 => exact HC0_1.out); (case side3 => exact qC (Kd.C_below HR0_2.out HB.out)); (case side4 => exact HC0_2.out); rintro e w14 ⟨rfl, hb⟩; have n0_ := Aside0.mk (Kd.R_below (qR HO545.out) hb); have n1_ := Aside0.mk (blk_below (g := gb541) (o := .cells #[.int .i64 a0_0, .slice A0_1 l0_1.length c0_1, .slice A0_2 l0_2.length c0_2] 30 (0, 0)) (qK BK541.out) hb); have n2_ := Aside0.mk (below_step (qB) hb); clear HO545; clear BK541; clear HB; have HO545 := n0_; have BK541 := n1_; have HB := n2_; clear n0_ n1_ n2_; (try clear hb); (try clear hb2); (try clear hk); (try clear hi); obtain ⟨Ao15, co15, eo15⟩ := Kd.R_slice HO545.out; subst eo15) | (go_at_call 48; (with_reducible refine (impl_areWiresBelow.calls _ _ y543 t546 t547 _ ?side1 ?side2 A8.out).mono ?_); (case side1 => repeat (first | exact (Kd.R_reads' HO545.out).2.2 | (with_reducible refine Kd.C_alloc ?_ _) | (with_reducible refine Kd.C_drewN ?_ _) | (with_reducible refine Kd.C_drew ?_))); (case side2 => exact (Kd.R_reads' HO545.out).2.1); rintro e w16 ⟨rfl, hb⟩; have n0_ := Aside0.mk (Kd.R_below (qR HO545.out) hb); have n1_ := Aside0.mk (blk_below (g := gb541) (o := .cells #[.int .i64 a0_0, .slice A0_1 l0_1.length c0_1, .slice A0_2 l0_2.length c0_2] 30 (0, 0)) (qK BK541.out) hb); have n2_ := Aside0.mk (below_step (qB) hb); clear HO545; clear BK541; clear HB; have HO545 := n0_; have BK541 := n1_; have HB := n2_; clear n0_ n1_ n2_; (try clear hb); (try clear hb2); (try clear hk); (try clear hi)))
   go_meet
   case rel => exact ⟨_, (!t547), qS, H', ⟨by first | omega | exact Nat.le_refl _⟩, ⟨by exact qK BK541.out⟩, ⟨qB⟩⟩
  ·replace c6 := Bool.eq_false_iff.mpr c6
   subst c6
   have H1 : (impl_ConeOf.j0 k a1 true a0_0 l0_1 l0_2) = some (r1, r2) := by rw [if_neg (show ¬ (false = true) by decide)] at H; exact H
   clear H
   have H := H1
   clear H1
   have H' := Aside0.mk H
   clear H
   have hcz17_0 : w4.cell? ⟨gb541, 0, none⟩ = some (.int .i64 a0_0) := (blk_cell BK541.out 0).trans rfl
   have hcz17_1 : w4.cell? ⟨gb541, 1, none⟩ = some (.slice A0_1 l0_1.length c0_1) := (blk_cell BK541.out 1).trans rfl
   have hcz17_2 : w4.cell? ⟨gb541, 2, none⟩ = some (.slice A0_2 l0_2.length c0_2) := (blk_cell BK541.out 2).trans rfl
   have hfz17_0 := blk_frozen BK541.out 0
   have hfz17_1 := blk_frozen BK541.out 1
   have hfz17_2 := blk_frozen BK541.out 2
   go_wp2_with (first | ((with_reducible refine gate_callee (f := 14) rfl ?_); refine goesL_ (some 10) rfl rfl Try.func14 (by kernel_rfl) rfl #[.agg #[.int .i64 a0_0, .slice A0_1 l0_1.length c0_1, .slice A0_2 l0_2.length c0_2]] rfl qG ?_; (with_reducible refine (impl_GoodCircuit.calls k a0_0 _ _ l0_1 _ _ l0_2 false _ ?side1 ?side2 ?side3 ?side4 A5.out).mono ?_); (case side1 => exact qC (Kd.C_below HR0_1.out HB.out)); (case side2 => exact HC0_1.out); (case side3 => exact qC (Kd.C_below HR0_2.out HB.out)); (case side4 => exact HC0_2.out); rintro e w18 ⟨rfl, hb⟩; refine ⟨_, rfl, ?_⟩; have n0_ := Aside0.mk (blk_below (g := gb541) (o := .cells #[.int .i64 a0_0, .slice A0_1 l0_1.length c0_1, .slice A0_2 l0_2.length c0_2] 30 (0, 0)) (qK BK541.out) hb); have n1_ := Aside0.mk (below_step (qB) hb); clear BK541; clear HB; have BK541 := n0_; have HB := n1_; clear n0_ n1_; (try clear hb); (try clear hb2); (try clear hk); (try clear hi)))
   go_meet
   case rel => exact ⟨_, (true), qS, H', ⟨by first | omega | exact Nat.le_refl _⟩, ⟨by exact qK BK541.out⟩, ⟨qB⟩⟩
 case rest =>
  clear HC3
  try clear c1
  try clear c2
  try clear p2
  try clear c6
  try clear c14
  try clear hcz13_0
  try clear hcz13_1
  try clear hcz13_2
  try clear hcz17_0
  try clear hcz17_1
  try clear hcz17_2
  try clear hcz9_0
  try clear hcz9_1
  try clear hcz9_2
  try clear hfz13_0
  try clear hfz13_1
  try clear hfz13_2
  try clear hfz17_0
  try clear hfz17_1
  try clear hfz17_2
  try clear hfz9_0
  try clear hfz9_1
  try clear hfz9_2
  obtain ⟨kq, x19_2, rfl, HA, HJ2, BK541, HB⟩ := hcut
  cases kq with
  | zero => exact absurd HA.out (by simp [impl_ConeOf.j0])
  | succ kj2 =>
   have H := HA.out
   clear HA
   simp only [impl_ConeOf.j0] at H
   by_cases c19 : x19_2 = true
   ·subst c19
    have H1 : (some (([] : List Int), false)) = some (r1, r2) := by rw [if_pos rfl] at H; exact H
    clear H
    have H := H1
    clear H1
    simp only [Option.some.injEq, Prod.mk.injEq] at H
    obtain ⟨rfl, rfl⟩ := H
    go_wp2
    go_ret2
    exact ⟨_, qE, by first | exact Kd.R_nil _ _ _ _ _ | exact Kd.N_nil _ _ _ _ _ | exact Kd.V_nil _ _ _ _ _ | exact Kd.Q_nil _ _ _ _ _ | exact Kd.S_nil _ _ _ _ _, qB⟩
   ·replace c19 := Bool.eq_false_iff.mpr c19
    subst c19
    have H1 : ((impl_Circuit_coneOf.f a0_0 l0_1 l0_2 (([a1] : List Int))).bind fun t554 => (impl_ConeOf.l0 kj2 (([] : List Int)) t554 (t554.length : Int) 0)) = some (r1, r2) := by rw [if_neg (show ¬ (false = true) by decide)] at H; exact H
    clear H
    have H := H1
    clear H1
    obtain ⟨y548, hy548⟩ : ∃ y_ : List Int, y_ = (([] : List Int)) := ⟨_, rfl⟩
    replace H : ((impl_Circuit_coneOf.f a0_0 l0_1 l0_2 (([a1] : List Int))).bind fun t554 => (impl_ConeOf.l0 kj2 y548 t554 (t554.length : Int) 0)) = some (r1, r2) := qY hy548 H
    have Ny548 := Aside0.mk hy548
    clear hy548
    obtain ⟨y551, hy551⟩ : ∃ y_ : List Int, y_ = (([a1] : List Int)) := ⟨_, rfl⟩
    replace H : ((impl_Circuit_coneOf.f a0_0 l0_1 l0_2 y551).bind fun t554 => (impl_ConeOf.l0 kj2 y548 t554 (t554.length : Int) 0)) = some (r1, r2) := qY hy551 H
    have Ny551 := Aside0.mk hy551
    clear hy551
    replace H := Option.bind_eq_some_iff.mp H
    obtain ⟨t554, A200, H⟩ := H
    replace H : (impl_ConeOf.l0 kj2 y548 t554 (t554.length : Int) 0) = some (r1, r2) := H
    have A20 := Aside0.mk A200
    clear A200
    have H' := Aside0.mk H
    clear H
    go_wp2_with (first | ((with_reducible refine gate_dst (N := 20) rfl ?_); (try (refine gate_guard (by rfl) ?_; dsimp only)); refine Kd.R_lit (Kd.int .i64) _ 3 ?hg (N := 20) ?hd (xs := ([] : List Int)) (inner := []) (ok := fun _ => True) (okp := fun _ => True) ?hr ?hp (fun _ hk => hk) trivial (Below.refl _ _) (Nat.le_refl _) (by simp) ?_; (case hd => rfl); (case hg => rfl); (case hr => first | (go_simp; done) | (go_simp; rfl)); (case hp => exact (Reps.none _ _)); intro v549 w21 ho22 hb hg_ hnew_; clear hg_ hnew_; (first | rw [← Ny548.out] at ho22 | (simp only [Int.reduceToNat] at ho22; rw [← Ny548.out] at ho22)); have n0_ := Aside0.mk (Kd.R_lower ho22 (below_size (qB))); have n1_ := Aside0.mk (blk_below (g := gb541) (o := .cells #[.int .i64 a0_0, .slice A0_1 l0_1.length c0_1, .slice A0_2 l0_2.length c0_2] 30 (0, 0)) (qK BK541.out) hb); have n2_ := Aside0.mk (below_step (qB) hb); clear BK541; clear HB; have HO550 := n0_; have BK541 := n1_; have HB := n2_; clear n0_ n1_ n2_; clear hb ho22; have hcz23_0 : w21.cell? ⟨gb541, 0, none⟩ = some (.int .i64 a0_0) := (blk_cell BK541.out 0).trans rfl; have hcz23_1 : w21.cell? ⟨gb541, 1, none⟩ = some (.slice A0_1 l0_1.length c0_1) := (blk_cell BK541.out 1).trans rfl; have hcz23_2 : w21.cell? ⟨gb541, 2, none⟩ = some (.slice A0_2 l0_2.length c0_2) := (blk_cell BK541.out 2).trans rfl; have hfz23_0 := blk_frozen BK541.out 0; have hfz23_1 := blk_frozen BK541.out 1; have hfz23_2 := blk_frozen BK541.out 2) | ((with_reducible refine gate_dst (N := 23) rfl ?_); (try (refine gate_guard (by rfl) ?_; dsimp only)); refine Kd.R_lit (Kd.int .i64) _ 3 ?hg (N := 23) ?hd (xs := ([a1] : List Int)) (inner := [.int .i64 a1]) (ok := fun _ => True) (okp := fun _ => True) ?hr ?hp (fun _ hk => hk) trivial (Below.refl _ _) (Nat.le_refl _) (by simp) ?_; (case hd => rfl); (case hg => rfl); (case hr => first | (go_simp; done) | (go_simp; rfl)); (case hp => exact (Reps.one (show Kd.M (Kd.int .i64) _ _ _ a1 [.int .i64 a1] from rfl) (Reps.none _ _))); intro v552 w24 ho25 hb hg_ hnew_; clear hg_ hnew_; (first | rw [← Ny551.out] at ho25 | (simp only [Int.reduceToNat] at ho25; rw [← Ny551.out] at ho25)); have n0_ := Aside0.mk (Kd.R_elder' (qR HO550.out) (Kd.R_base ho25) hb); have n1_ := Aside0.mk (Kd.R_lower (Kd.R_new' ho25 (Kd.R_lt (qR HO550.out))) (below_size (qB))); have n2_ := Aside0.mk (blk_below (g := gb541) (o := .cells #[.int .i64 a0_0, .slice A0_1 l0_1.length c0_1, .slice A0_2 l0_2.length c0_2] 30 (0, 0)) (qK BK541.out) hb); have n3_ := Aside0.mk (below_step (qB) hb); clear HO550; clear BK541; clear HB; have HO550 := n0_; have HO553 := n1_; have BK541 := n2_; have HB := n3_; clear n0_ n1_ n2_ n3_; clear hb ho25; obtain ⟨Ao26, co26, eo26⟩ := Kd.R_slice HO553.out; subst eo26) | ((with_reducible refine gate_callee (f := 55) rfl ?_); refine goesL_ (some 24) rfl rfl Try.func55 (by kernel_rfl) rfl #[.agg #[.int .i64 a0_0, .slice A0_1 l0_1.length c0_1, .slice A0_2 l0_2.length c0_2], .slice Ao26 y551.length co26] rfl qG ?_; (with_reducible refine (impl_Circuit_coneOf.calls a0_0 _ _ l0_1 _ _ l0_2 _ _ y551 t554 _ ?side1 ?side2 ?side3 ?side4 ?side5 ?side6 A20.out).mono ?_); (case side1 => exact qC (Kd.C_below HR0_1.out HB.out)); (case side2 => exact HC0_1.out); (case side3 => exact qC (Kd.C_below HR0_2.out HB.out)); (case side4 => exact HC0_2.out); (case side5 => repeat (first | exact (Kd.R_reads' HO553.out).2.2 | (with_reducible refine Kd.C_alloc ?_ _) | (with_reducible refine Kd.C_drewN ?_ _) | (with_reducible refine Kd.C_drew ?_))); (case side6 => exact (Kd.R_reads' HO553.out).2.1); rintro e w27 ⟨v555, rfl, ho0, hb⟩; refine ⟨_, rfl, ?_⟩; have n0_ := Aside0.mk (Kd.R_below (qR HO550.out) hb); have n1_ := Aside0.mk (Kd.R_below (qR HO553.out) hb); have n2_ := Aside0.mk (Kd.R_lower ho0 (below_size (qB))); have n3_ := Aside0.mk (blk_below (g := gb541) (o := .cells #[.int .i64 a0_0, .slice A0_1 l0_1.length c0_1, .slice A0_2 l0_2.length c0_2] 30 (0, 0)) (qK BK541.out) hb); have n4_ := Aside0.mk (below_step (qB) hb); clear HO550; clear HO553; clear BK541; clear HB; have HO550 := n0_; have HO553 := n1_; have HO556 := n2_; have BK541 := n3_; have HB := n4_; clear n0_ n1_ n2_ n3_ n4_; (try clear hb); (try clear hb2); (try clear hk); (try clear hi); (try clear ho0); obtain ⟨Ao28, co28, eo28⟩ := Kd.R_slice HO556.out; subst eo28))
    go_loopg [6, 26] kj2 (fun kq v6 v26 w' => ∃ (x6_2 : List Int) (x26_2 : Int), v26 = .int .i64 x26_2 ∧ Aside0 (impl_ConeOf.l0 kq x6_2 t554 (t554.length : Int) x26_2 = some (r1, r2)) ∧ Aside0 (kq ≤ kj2) ∧ Aside0 (Kd.R (Kd.int .i64) 3 w' w.heap.size (fun _ => True) v6 x6_2) ∧ Aside0 (Kd.R Kd.bool 4 w' w.heap.size (fun _ => True) (.slice Ao28 t554.length co28) t554) ∧ Aside0 (w'.heap[gb541]? = some (.cells #[.int .i64 a0_0, (.slice A0_1 l0_1.length c0_1), (.slice A0_2 l0_2.length c0_2)] 30 (0, 0))) ∧ Aside0 (Below w.heap.size w w'))
    case atStart => exact ⟨(y548), (0), qS, H', ⟨Nat.le_refl _⟩, ⟨by (with_reducible repeat (first | apply Kd.R_alloc | apply Kd.R_drewN | apply Kd.R_drew)); exact Kd.R_mono HO550.out (fun _ hk => trivial)⟩, ⟨qR HO556.out⟩, ⟨by exact qK BK541.out⟩, ⟨qB⟩⟩
    case round =>
     clear H'
     try clear c1
     try clear c2
     try clear p2
     try clear c5
     try clear c6
     try clear c14
     try clear c19
     try clear c26
     try clear hcz13_0
     try clear hcz13_1
     try clear hcz13_2
     try clear hcz17_0
     try clear hcz17_1
     try clear hcz17_2
     try clear hcz23_0
     try clear hcz23_1
     try clear hcz23_2
     try clear hcz9_0
     try clear hcz9_1
     try clear hcz9_2
     try clear hfz13_0
     try clear hfz13_1
     try clear hfz13_2
     try clear hfz17_0
     try clear hfz17_1
     try clear hfz17_2
     try clear hfz23_0
     try clear hfz23_1
     try clear hfz23_2
     try clear hfz9_0
     try clear hfz9_1
     try clear hfz9_2
     try clear p2
     obtain ⟨x6_2, x26_2, rfl, HA, HK2, HO_6, HO_24, BK541, HB⟩ := hrel
     cases gk with
     | zero => exact absurd HA.out (by simp [impl_ConeOf.l0])
     | succ k2 =>
      have H := HA.out
      clear HA
      simp only [impl_ConeOf.l0] at H
      by_cases c29 : x26_2 < (t554.length : Int)
      ·rw [if_pos c29] at H
       have c29b0 : decide (x26_2 < (t554.length : Int)) = true := decide_eq_true c29
       clear c29
       by_cases c30 : 0 ≤ x26_2
       ·rw [if_pos c30] at H
        have c30b0 : decide (0 ≤ x26_2) = true := decide_eq_true c30
        clear c30
        by_cases c31 : x26_2 < (t554.length : Int)
        ·rw [if_pos c31] at H
         have c31b0 : decide (x26_2 < (t554.length : Int)) = true := decide_eq_true c31
         clear c31
         obtain ⟨bq32, hbq32⟩ : ∃ b_ : Bool, b_ = (rdOf false t554 x26_2) := ⟨_, rfl⟩
         replace H : (if bq32 = true then (if x6_2.length < 17592186044416 then (impl_ConeOf.l0 k2 (x6_2 ++ [x26_2]) t554 (t554.length : Int) (wrap64 (x26_2 + 1))) else (none)) else (impl_ConeOf.l0 k2 x6_2 t554 (t554.length : Int) (wrap64 (x26_2 + 1)))) = some (r1, r2) := by rw [← hbq32] at H; exact H
         have Nbq32 := Aside0.mk hbq32
         clear hbq32
         by_cases c33 : bq32 = true
         ·subst c33
          have H1 : (if x6_2.length < 17592186044416 then (impl_ConeOf.l0 k2 (x6_2 ++ [x26_2]) t554 (t554.length : Int) (wrap64 (x26_2 + 1))) else (none)) = some (r1, r2) := by rw [if_pos rfl] at H; exact H
          clear H
          have H := H1
          clear H1
          by_cases c34 : x6_2.length < 17592186044416
          ·rw [if_pos c34] at H
           have LMc34 := Aside0.mk c34
           clear c34
           obtain ⟨y558, hy558⟩ : ∃ y_ : List Int, y_ = (x6_2 ++ [x26_2]) := ⟨_, rfl⟩
           replace H : (impl_ConeOf.l0 k2 y558 t554 (t554.length : Int) (wrap64 (x26_2 + 1))) = some (r1, r2) := qY hy558 H
           have Ny558 := Aside0.mk hy558
           clear hy558
           have H' := Aside0.mk H
           clear H
           have p557 : 0 ≤ (x26_2 : Int) := qD
           have q557 : x26_2 < (t554.length : Int) := qD
           obtain ⟨ad557, e557, hx557_0⟩ := Kd.at_bool (Kd.R_reads' HO_24.out).2.2 x26_2 p557 q557
           (try rw [← Nbq32.out] at hx557_0)
           cases e557
           replace p557 := eq_true p557
           replace q557 := eq_true q557
           go_wp2_with (first | ((with_reducible refine gate_builtin (b := .append) (xs := #[.tmp 32, .tmp 34]) rfl ?_); (try (refine gate_guard (by rfl) ?_; dsimp only)); at_builtin; refine Kd.R_append (Kd.int .i64) (w0 := w) w.heap.size rfl (.tmp 32) (.tmp 34) 23 3 (.int .i64 0) 8 rfl Try.underlying23 info3 rfl (by decide) (by omega) u6 x6_2 x26_2 [.int .i64 x26_2] (fun _ => True) (fun _ => False) rfl rfl ?aP (fun _ hk => hk.elim) ?aF ?aO ?aB ?aS ?aL ?_; (case aP => exact rfl); (case aB => exact (qB)); (case aF => exact (fun _ _ => trivial)); (case aO => exact (qR HO_6.out)); (case aS => exact (below_size (qB))); (case aL => have := LMc34.out; omega); intro v559 w35 ho hb hg hat; rw [← Ny558.out] at ho; have n0_ := Aside0.mk (Kd.R_over' (qR HO_24.out) (Kd.R_typed (qR HO_6.out)) (by decide) hg); have n1_ := Aside0.mk (blk_grown (g := gb541) (o := .cells #[.int .i64 a0_0, .slice A0_1 l0_1.length c0_1, .slice A0_2 l0_2.length c0_2] 30 (0, 0)) (qK BK541.out) hg (Kd.R_ne HO_6.out BK541.out (by decide))); have n2_ := Aside0.mk (hb); have n3_ := Aside0.mk (ho); clear HO_24; clear BK541; clear HB; clear HO_6; have HO_24 := n0_; have BK541 := n1_; have HB := n2_; have HO560 := n3_; clear n0_ n1_ n2_ n3_; clear ho hb hg hat))
           go_roundg k2
           case measure => have := HJ2.out; have := HK2.out; omega
           case rel => exact ⟨(y558), (wrap64 (x26_2 + 1)), qS, H', ⟨by have := HJ2.out; have := HK2.out; omega⟩, ⟨qR HO560.out⟩, ⟨qR HO_24.out⟩, ⟨by exact qK BK541.out⟩, ⟨qB⟩⟩
          ·rw [if_neg c34] at H
           exact absurd H (by simp)
         ·replace c33 := Bool.eq_false_iff.mpr c33
          subst c33
          have H1 : (impl_ConeOf.l0 k2 x6_2 t554 (t554.length : Int) (wrap64 (x26_2 + 1))) = some (r1, r2) := by rw [if_neg (show ¬ (false = true) by decide)] at H; exact H
          clear H
          have H := H1
          clear H1
          have H' := Aside0.mk H
          clear H
          have p557 : 0 ≤ (x26_2 : Int) := qD
          have q557 : x26_2 < (t554.length : Int) := qD
          obtain ⟨ad557, e557, hx557_0⟩ := Kd.at_bool (Kd.R_reads' HO_24.out).2.2 x26_2 p557 q557
          (try rw [← Nbq32.out] at hx557_0)
          cases e557
          replace p557 := eq_true p557
          replace q557 := eq_true q557
          go_wp2
          go_roundg k2
          case measure => have := HJ2.out; have := HK2.out; omega
          case rel => exact ⟨(x6_2), (wrap64 (x26_2 + 1)), qS, H', ⟨by have := HJ2.out; have := HK2.out; omega⟩, ⟨qR HO_6.out⟩, ⟨qR HO_24.out⟩, ⟨by exact qK BK541.out⟩, ⟨qB⟩⟩
        ·rw [if_neg c31] at H
         exact absurd H (by simp)
       ·rw [if_neg c30] at H
        exact absurd H (by simp)
      ·rw [if_neg c29] at H
       have c29b0 : decide (x26_2 < (t554.length : Int)) = false := decide_eq_false c29
       clear c29
       simp only [Option.some.injEq, Prod.mk.injEq] at H
       obtain ⟨rfl, rfl⟩ := H
       go_wp2
       go_ret2
       exact ⟨_, qE, qR HO_6.out, qB⟩


/-! ### laws_heldIntS: function 29 -/
def laws_heldIntS.l0 : Nat → List Int → Int → Int → Option (Int)
 | 0, _, _, _ => none
 | k + 1, x0, x1, x5 => if x5 < (x0.length : Int) then (if 0 ≤ x5 then (if (rd x0 x5) = x1 then (laws_heldIntS.l0 k x0 (wrap64 (x1 + 1)) (wrap64 (x5 + 1))) else (some (-1))) else (none)) else (some x1)
def laws_heldIntS.f (k : Nat) (l0 : List Int) (a1 : Int) : Option (Int) := laws_heldIntS.l0 k l0 a1 0
theorem laws_heldIntS.mono_l : ∀ k, (∀ y0 y1 y2, LeO (laws_heldIntS.l0 k y0 y1 y2) (laws_heldIntS.l0 (k + 1) y0 y1 y2))
 | 0 => fun _ _ _ r h => by simp [laws_heldIntS.l0] at h
 | k + 1 => by
  have ih0 := laws_heldIntS.mono_l k
  ·intro y0 y1 y2
   unfold laws_heldIntS.l0
   repeat' first
   | (with_reducible exact ih0 _ _ _)
   | (with_reducible first | exact LeO.refl _ | exact LeO.none _ | refine LeO.ite ?_ ?_ | refine LeO.bind ?_ (fun _ => ?_))
   | exact ih0 _ _ _
   | exact LeO.none _ | refine LeO.ite ?_ ?_ | refine LeO.bind ?_ (fun _ => ?_)
theorem laws_heldIntS.mono : ∀ a0 a1 k, LeO (laws_heldIntS.f k a0 a1) (laws_heldIntS.f (k + 1) a0 a1) := by
 intro a0 a1 k
 have ih0 := laws_heldIntS.mono_l k
 unfold laws_heldIntS.f
 repeat' first
   | (with_reducible exact ih0 _ _ _)
   | (with_reducible first | exact LeO.refl _ | exact LeO.none _ | refine LeO.ite ?_ ?_ | refine LeO.bind ?_ (fun _ => ?_))
   | exact ih0 _ _ _
   | exact LeO.none _ | refine LeO.ite ?_ ?_ | refine LeO.bind ?_ (fun _ => ?_)
set_option maxHeartbeats 8000000 in
set_option maxRecDepth 100000 in
theorem laws_heldIntS.calls (k : Nat) (A0 : Option Addr) (c0 : Nat) (l0 : List Int) (a1 : Int) (r : Int) (w : World) (hr0 : Kd.C (Kd.int .i64) w A0 l0.length l0) (hc0 : l0.length ≤ c0) (h : laws_heldIntS.f k l0 a1 = some r) :
  Calls Try.prog 29 #[.slice A0 l0.length c0, .int .i64 a1] w fun e w' => e = .returned (.int .i64 r) ∧ Drawn0 w w' := by
 have HR0 := Aside0.mk hr0
 have HC0 := Aside0.mk hc0
 clear hr0 hc0
 have H : (laws_heldIntS.l0 k l0 a1 0) = some r := h
 clear h
 have H' := Aside0.mk H
 clear H
 go_enter Try.func29, Try.ntmps29
 go_wp2
 go_loopg [1, 5] k (fun kq v1 v5 w' => ∃ (x1_1 : Int) (x5_1 : Int), v1 = .int .i64 x1_1 ∧ v5 = .int .i64 x5_1 ∧ Aside0 (laws_heldIntS.l0 kq l0 x1_1 x5_1 = some r) ∧ Aside0 (kq ≤ k) ∧ Drawn0 w w')
 case atStart => exact ⟨(a1), (0), qS, qS, H', ⟨Nat.le_refl _⟩, by repeat (first | exact Drawn0.refl _ | apply Drawn0.step)⟩
 case round =>
  clear H'
  try clear c2
  try clear p2
  obtain ⟨x1_1, x5_1, rfl, rfl, HA, HK1, ⟨m1, rfl⟩⟩ := hrel
  cases gk with
  | zero => exact absurd HA.out (by simp [laws_heldIntS.l0])
  | succ k1 =>
   have H := HA.out
   clear HA
   simp only [laws_heldIntS.l0] at H
   by_cases c3 : x5_1 < (l0.length : Int)
   ·rw [if_pos c3] at H
    have c3b0 : decide (x5_1 < (l0.length : Int)) = true := decide_eq_true c3
    clear c3
    by_cases c4 : 0 ≤ x5_1
    ·rw [if_pos c4] at H
     have c4b0 : decide (0 ≤ x5_1) = true := decide_eq_true c4
     clear c4
     by_cases c5 : (rd l0 x5_1) = x1_1
     ·rw [if_pos c5] at H
      have c5b0 : ((rd l0 x5_1) == x1_1) = true := beq_iff_eq.mpr c5
      have c5b1 : ((rd l0 x5_1) != x1_1) = false := bne_eq_false_iff_eq.mpr c5
      clear c5
      have H' := Aside0.mk H
      clear H
      have p561 : 0 ≤ (x5_1 : Int) := qD
      have q561 : x5_1 < (l0.length : Int) := qD
      obtain ⟨ad561, e561, hx561_0⟩ := Kd.at_int HR0.out x5_1 p561 q561
      cases e561
      replace p561 := eq_true p561
      replace q561 := eq_true q561
      go_wp2
      go_roundg k1
      case measure => have := HK1.out; omega
      case rel => exact ⟨(wrap64 (x1_1 + 1)), (wrap64 (x5_1 + 1)), qS, qS, H', ⟨by have := HK1.out; omega⟩, by repeat (first | exact Drawn0.refl _ | apply Drawn0.step)⟩
     ·rw [if_neg c5] at H
      have c5b0 : ((rd l0 x5_1) == x1_1) = false := beq_eq_false_iff_ne.mpr c5
      have c5b1 : ((rd l0 x5_1) != x1_1) = true := bne_iff_ne.mpr c5
      obtain rfl := Option.some.inj H
      have p561 : 0 ≤ (x5_1 : Int) := qD
      have q561 : x5_1 < (l0.length : Int) := qD
      obtain ⟨ad561, e561, hx561_0⟩ := Kd.at_int HR0.out x5_1 p561 q561
      cases e561
      replace p561 := eq_true p561
      replace q561 := eq_true q561
      go_wp2
      go_ret
      exact ⟨by first | rfl | (simp; done) | (simp [*]; done), by repeat (first | exact Drawn0.refl _ | apply Drawn0.step)⟩
    ·rw [if_neg c4] at H
     exact absurd H (by simp)
   ·rw [if_neg c3] at H
    have c3b0 : decide (x5_1 < (l0.length : Int)) = false := decide_eq_false c3
    clear c3
    obtain rfl := Option.some.inj H
    go_wp2
    go_ret
    exact ⟨by first | rfl | (simp; done) | (simp [*]; done), by repeat (first | exact Drawn0.refl _ | apply Drawn0.step)⟩

end Go.Proofs.Ytimkjhdopncimaa.X
