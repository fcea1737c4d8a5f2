/- Go functions as Lean functions, each with the proof that its call comes to just its answer. Conditions: the arguments are of their kinds. -/
import Derived.Test.YtimkjhdopncimaaX0
import Derived.Test.YtimkjhdopncimaaX5
import Derived.Test.YtimkjhdopncimaaX8
import Derived.Lib.SliceRun
import Derived.Test.YtimkjhdopncimaaX28
import Derived.StillTailTactics
namespace Go.Proofs.Ytimkjhdopncimaa.X
open Go.RowKit Go.Proofs.YtimkjhdopncimaaW.PrintWords Go.Proofs.YtimkjhdopncimaaW.PrintLast Go.Proofs.YtimkjhdopncimaaW.PrintMore
attribute [local go_sem] max2_int min2_int max_two min_two max_three min_three max_four min_four   -- for this text's walks alone
set_option linter.unusedVariables false
set_option linter.unusedSimpArgs false

/-! ### impl_areLists: function 61 -/
def impl_areLists.f (k : Nat) (a0_0 : Int) (l0_1 : List (S59)) (l0_2 : List Int) (l1 : List Int) (l2 : List Int) : Option (Bool) := (impl_GoodCircuit.f k a0_0 l0_1 l0_2).bind fun t684 => (if t684 = true then (if (l1.length : Int) = (l2.length : Int) then (if (l1.length : Int) ≤ 16 then ((impl_Circuit_wires.f a0_0 l0_1 l0_2).bind fun t685 => ((impl_areWiresBelow.f l1 t685).bind fun t686 => (if t686 = true then ((impl_Circuit_wires.f a0_0 l0_1 l0_2).bind fun t687 => ((impl_areWiresBelow.f l2 t687).bind fun t688 => (some t688))) else (some false)))) else (some false)) else (some false)) else (some false))
theorem impl_areLists.mono : ∀ a0 a1 a2 a3 a4 k, LeO (impl_areLists.f k a0 a1 a2 a3 a4) (impl_areLists.f (k + 1) a0 a1 a2 a3 a4) := by
 intro a0 a1 a2 a3 a4 k
 unfold impl_areLists.f
 repeat' first
   | (with_reducible exact impl_GoodCircuit.mono _ _ _ _)
   | (with_reducible first | exact LeO.refl _ | exact LeO.none _ | refine LeO.ite ?_ ?_ | refine LeO.bind ?_ (fun _ => ?_))
   | exact impl_GoodCircuit.mono _ _ _ _
   | exact LeO.none _ | refine LeO.ite ?_ ?_ | refine LeO.bind ?_ (fun _ => ?_)
set_option maxHeartbeats 8000000 in
set_option maxRecDepth 100000 in
theorem impl_areLists.calls (k : Nat) (a0_0 : Int) (A0_1 : Option Addr) (c0_1 : Nat) (l0_1 : List (S59)) (A0_2 : Option Addr) (c0_2 : Nat) (l0_2 : List Int) (A1 : Option Addr) (c1 : Nat) (l1 : List Int) (A2 : Option Addr) (c2 : Nat) (l2 : List Int) (r : Bool) (w : World) (hr0_1 : Kd.C k59 w A0_1 l0_1.length l0_1) (hc0_1 : l0_1.length ≤ c0_1) (hr0_2 : Kd.C (Kd.int .i64) w A0_2 l0_2.length l0_2) (hc0_2 : l0_2.length ≤ c0_2) (hr1 : Kd.C (Kd.int .i64) w A1 l1.length l1) (hc1 : l1.length ≤ c1) (hr2 : Kd.C (Kd.int .i64) w A2 l2.length l2) (hc2 : l2.length ≤ c2) (h : impl_areLists.f k a0_0 l0_1 l0_2 l1 l2 = some r) :
  Calls Try.prog 61 #[.agg #[.int .i64 a0_0, .slice A0_1 l0_1.length c0_1, .slice A0_2 l0_2.length c0_2], .slice A1 l1.length c1, .slice A2 l2.length c2] w fun e w' => e = .returned (.bool r) ∧ Below w.heap.size w w' := by
 have hu30 := Try.underlying30
 have HR0_1 := Aside0.mk hr0_1
 have HC0_1 := Aside0.mk hc0_1
 clear hr0_1 hc0_1
 have HR0_2 := Aside0.mk hr0_2
 have HC0_2 := Aside0.mk hc0_2
 clear hr0_2 hc0_2
 have HR1 := Aside0.mk hr1
 have HC1 := Aside0.mk hc1
 clear hr1 hc1
 have HR2 := Aside0.mk hr2
 have HC2 := Aside0.mk hc2
 clear hr2 hc2
 have HB := Aside0.mk (Below.refl w.heap.size w)
 have H : ((impl_GoodCircuit.f k a0_0 l0_1 l0_2).bind fun t684 => (if t684 = true then (if (l1.length : Int) = (l2.length : Int) then (if (l1.length : Int) ≤ 16 then ((impl_Circuit_wires.f a0_0 l0_1 l0_2).bind fun t685 => ((impl_areWiresBelow.f l1 t685).bind fun t686 => (if t686 = true then ((impl_Circuit_wires.f a0_0 l0_1 l0_2).bind fun t687 => ((impl_areWiresBelow.f l2 t687).bind fun t688 => (some t688))) else (some false)))) else (some false)) else (some false)) else (some false))) = some r := h
 clear h
 replace H := Option.bind_eq_some_iff.mp H
 obtain ⟨t684, A40, H⟩ := H
 replace H : (if t684 = true then (if (l1.length : Int) = (l2.length : Int) then (if (l1.length : Int) ≤ 16 then ((impl_Circuit_wires.f a0_0 l0_1 l0_2).bind fun t685 => ((impl_areWiresBelow.f l1 t685).bind fun t686 => (if t686 = true then ((impl_Circuit_wires.f a0_0 l0_1 l0_2).bind fun t687 => ((impl_areWiresBelow.f l2 t687).bind fun t688 => (some t688))) else (some false)))) else (some false)) else (some false)) else (some false)) = some r := H
 have A4 := Aside0.mk A40
 clear A40
 by_cases c5 : t684 = true
 ·subst c5
  have H1 : (if (l1.length : Int) = (l2.length : Int) then (if (l1.length : Int) ≤ 16 then ((impl_Circuit_wires.f a0_0 l0_1 l0_2).bind fun t685 => ((impl_areWiresBelow.f l1 t685).bind fun t686 => (if t686 = true then ((impl_Circuit_wires.f a0_0 l0_1 l0_2).bind fun t687 => ((impl_areWiresBelow.f l2 t687).bind fun t688 => (some t688))) else (some false)))) else (some false)) else (some false)) = some r := by rw [if_pos rfl] at H; exact H
  clear H
  have H := H1
  clear H1
  by_cases c6 : (l1.length : Int) = (l2.length : Int)
  ·rw [if_pos c6] at H
   have c6b0 : ((l1.length : Int) == (l2.length : Int)) = true := beq_iff_eq.mpr c6
   have c6b1 : ((l1.length : Int) != (l2.length : Int)) = false := bne_eq_false_iff_eq.mpr c6
   have c6b2 : (l1.length == l2.length) = true := by first | simpa using c6 | (simp at c6 ⊢; omega)
   clear c6
   by_cases c7 : (l1.length : Int) ≤ 16
   ·rw [if_pos c7] at H
    have c7b0 : decide ((l1.length : Int) ≤ 16) = true := decide_eq_true c7
    have c7b1 : decide (l1.length ≤ 16) = true := decide_eq_true (by omega)
    clear c7
    replace H := Option.bind_eq_some_iff.mp H
    obtain ⟨t685, A80, H⟩ := H
    replace H : ((impl_areWiresBelow.f l1 t685).bind fun t686 => (if t686 = true then ((impl_Circuit_wires.f a0_0 l0_1 l0_2).bind fun t687 => ((impl_areWiresBelow.f l2 t687).bind fun t688 => (some t688))) else (some false))) = some r := H
    have A8 := Aside0.mk A80
    clear A80
    replace H := Option.bind_eq_some_iff.mp H
    obtain ⟨t686, A90, H⟩ := H
    replace H : (if t686 = true then ((impl_Circuit_wires.f a0_0 l0_1 l0_2).bind fun t687 => ((impl_areWiresBelow.f l2 t687).bind fun t688 => (some t688))) else (some false)) = some r := H
    have A9 := Aside0.mk A90
    clear A90
    by_cases c10 : t686 = true
    ·subst c10
     have H1 : ((impl_Circuit_wires.f a0_0 l0_1 l0_2).bind fun t687 => ((impl_areWiresBelow.f l2 t687).bind fun t688 => (some t688))) = some r := by rw [if_pos rfl] at H; exact H
     clear H
     have H := H1
     clear H1
     replace H := Option.bind_eq_some_iff.mp H
     obtain ⟨t687, A110, H⟩ := H
     replace H : ((impl_areWiresBelow.f l2 t687).bind fun t688 => (some t688)) = some r := H
     have A11 := Aside0.mk A110
     clear A110
     obtain rfl : t685 = t687 := Option.some.inj (A8.out.symm.trans A11.out)
     replace H := Option.bind_eq_some_iff.mp H
     obtain ⟨t688, A120, H⟩ := H
     replace H : (some t688) = some r := H
     have A12 := Aside0.mk A120
     clear A120
     obtain rfl := Option.some.inj H
     go_enter Try.func61, Try.ntmps61
     go_wp2_with (first | ((with_reducible refine gate_dst (N := 3) rfl ?_); (try (refine gate_guard (by rfl) ?_; dsimp only)); refine box_event ?hg (N := 3) ?hd (cs := #[.int .i64 a0_0, .slice A0_1 l0_1.length c0_1, .slice A0_2 l0_2.length c0_2]) (t := 30) ?hr ?_; (case hd => rfl); (case hg => rfl); (case hr => first | (go_simp; done) | (go_simp; rfl)); intro gb683 hg w13 hbox hb; have n0_ := Aside0.mk (below_step (qB) hb); have n1_ := Aside0.mk (hbox); have n2_ := Aside0.mk ((by rw [hg]; exact (below_size (qB)) : w.heap.size ≤ gb683)); have n3_ := Aside0.mk ((by rw [hg]; exact (below_size (qB)) : w.heap.size ≤ gb683)); clear HB; have HB := n0_; have BK683 := n1_; have GW683 := n2_; have GE683 := n3_; clear n0_ n1_ n2_ n3_; clear hb hbox hg; have hcz14_0 : w13.cell? ⟨gb683, 0, none⟩ = some (.int .i64 a0_0) := (blk_cell BK683.out 0).trans rfl; have hcz14_1 : w13.cell? ⟨gb683, 1, none⟩ = some (.slice A0_1 l0_1.length c0_1) := (blk_cell BK683.out 1).trans rfl; have hcz14_2 : w13.cell? ⟨gb683, 2, none⟩ = some (.slice A0_2 l0_2.length c0_2) := (blk_cell BK683.out 2).trans rfl; have hfz14_0 := blk_frozen BK683.out 0; have hfz14_1 := blk_frozen BK683.out 1; have hfz14_2 := blk_frozen BK683.out 2) | ((with_reducible refine gate_callee (f := 14) rfl ?_); refine goesL_ (some 8) rfl rfl Try.func14 (by kernel_rfl) rfl #[.agg #[.int .i64 a0_0, .slice A0_1 l0_1.length c0_1, .slice A0_2 l0_2.length c0_2]] rfl qG ?_; (with_reducible refine (impl_GoodCircuit.calls k a0_0 _ _ l0_1 _ _ l0_2 true _ ?side1 ?side2 ?side3 ?side4 A4.out).mono ?_); (case side1 => exact qC (Kd.C_below HR0_1.out HB.out)); (case side2 => exact HC0_1.out); (case side3 => exact qC (Kd.C_below HR0_2.out HB.out)); (case side4 => exact HC0_2.out); rintro e w15 ⟨rfl, hb⟩; refine ⟨_, rfl, ?_⟩; have n0_ := Aside0.mk (blk_below (g := gb683) (o := .cells #[.int .i64 a0_0, .slice A0_1 l0_1.length c0_1, .slice A0_2 l0_2.length c0_2] 30 (0, 0)) (qK BK683.out) hb); have n1_ := Aside0.mk (below_step (qB) hb); clear BK683; clear HB; have BK683 := n0_; have HB := n1_; clear n0_ n1_; (try clear hb); (try clear hb2); (try clear hk); (try clear hi); have hcz16_0 : w15.cell? ⟨gb683, 0, none⟩ = some (.int .i64 a0_0) := (blk_cell BK683.out 0).trans rfl; have hcz16_1 : w15.cell? ⟨gb683, 1, none⟩ = some (.slice A0_1 l0_1.length c0_1) := (blk_cell BK683.out 1).trans rfl; have hcz16_2 : w15.cell? ⟨gb683, 2, none⟩ = some (.slice A0_2 l0_2.length c0_2) := (blk_cell BK683.out 2).trans rfl; have hfz16_0 := blk_frozen BK683.out 0; have hfz16_1 := blk_frozen BK683.out 1; have hfz16_2 := blk_frozen BK683.out 2) | (go_at_call 49; (with_reducible refine (impl_Circuit_wires.calls a0_0 _ _ l0_1 _ _ l0_2 t685 _ ?side1 ?side2 ?side3 ?side4 A8.out).mono ?_); (case side1 => exact qC (Kd.C_below HR0_1.out HB.out)); (case side2 => exact HC0_1.out); (case side3 => exact qC (Kd.C_below HR0_2.out HB.out)); (case side4 => exact HC0_2.out); rintro e w17 ⟨rfl, hb⟩; have n0_ := Aside0.mk (blk_below (g := gb683) (o := .cells #[.int .i64 a0_0, .slice A0_1 l0_1.length c0_1, .slice A0_2 l0_2.length c0_2] 30 (0, 0)) (qK BK683.out) hb); have n1_ := Aside0.mk (below_step (qB) hb); clear BK683; clear HB; have BK683 := n0_; have HB := n1_; clear n0_ n1_; (try clear hb); (try clear hb2); (try clear hk); (try clear hi)) | (go_at_call 48; (with_reducible refine (impl_areWiresBelow.calls _ _ l1 t685 true _ ?side1 ?side2 A9.out).mono ?_); (case side1 => exact qC (Kd.C_below HR1.out HB.out)); (case side2 => exact HC1.out); rintro e w18 ⟨rfl, hb⟩; have n0_ := Aside0.mk (blk_below (g := gb683) (o := .cells #[.int .i64 a0_0, .slice A0_1 l0_1.length c0_1, .slice A0_2 l0_2.length c0_2] 30 (0, 0)) (qK BK683.out) hb); have n1_ := Aside0.mk (below_step (qB) hb); clear BK683; clear HB; have BK683 := n0_; have HB := n1_; clear n0_ n1_; (try clear hb); (try clear hb2); (try clear hk); (try clear hi); have hcz19_0 : w18.cell? ⟨gb683, 0, none⟩ = some (.int .i64 a0_0) := (blk_cell BK683.out 0).trans rfl; have hcz19_1 : w18.cell? ⟨gb683, 1, none⟩ = some (.slice A0_1 l0_1.length c0_1) := (blk_cell BK683.out 1).trans rfl; have hcz19_2 : w18.cell? ⟨gb683, 2, none⟩ = some (.slice A0_2 l0_2.length c0_2) := (blk_cell BK683.out 2).trans rfl; have hfz19_0 := blk_frozen BK683.out 0; have hfz19_1 := blk_frozen BK683.out 1; have hfz19_2 := blk_frozen BK683.out 2) | (go_at_call 49; (with_reducible refine (impl_Circuit_wires.calls a0_0 _ _ l0_1 _ _ l0_2 t685 _ ?side1 ?side2 ?side3 ?side4 A11.out).mono ?_); (case side1 => exact qC (Kd.C_below HR0_1.out HB.out)); (case side2 => exact HC0_1.out); (case side3 => exact qC (Kd.C_below HR0_2.out HB.out)); (case side4 => exact HC0_2.out); rintro e w20 ⟨rfl, hb⟩; have n0_ := Aside0.mk (blk_below (g := gb683) (o := .cells #[.int .i64 a0_0, .slice A0_1 l0_1.length c0_1, .slice A0_2 l0_2.length c0_2] 30 (0, 0)) (qK BK683.out) hb); have n1_ := Aside0.mk (below_step (qB) hb); clear BK683; clear HB; have BK683 := n0_; have HB := n1_; clear n0_ n1_; (try clear hb); (try clear hb2); (try clear hk); (try clear hi)) | (go_at_call 48; (with_reducible refine (impl_areWiresBelow.calls _ _ l2 t685 t688 _ ?side1 ?side2 A12.out).mono ?_); (case side1 => exact qC (Kd.C_below HR2.out HB.out)); (case side2 => exact HC2.out); rintro e w21 ⟨rfl, hb⟩; have n0_ := Aside0.mk (blk_below (g := gb683) (o := .cells #[.int .i64 a0_0, .slice A0_1 l0_1.length c0_1, .slice A0_2 l0_2.length c0_2] 30 (0, 0)) (qK BK683.out) hb); have n1_ := Aside0.mk (below_step (qB) hb); clear BK683; clear HB; have BK683 := n0_; have HB := n1_; clear n0_ n1_; (try clear hb); (try clear hb2); (try clear hk); (try clear hi)))
     go_ret
     exact ⟨qE, qB⟩
    ·replace c10 := Bool.eq_false_iff.mpr c10
     subst c10
     have H1 : (some false) = some r := by rw [if_neg (show ¬ (false = true) by decide)] at H; exact H
     clear H
     have H := H1
     clear H1
     obtain rfl := Option.some.inj H
     go_enter Try.func61, Try.ntmps61
     go_wp2_with (first | ((with_reducible refine gate_dst (N := 3) rfl ?_); (try (refine gate_guard (by rfl) ?_; dsimp only)); refine box_event ?hg (N := 3) ?hd (cs := #[.int .i64 a0_0, .slice A0_1 l0_1.length c0_1, .slice A0_2 l0_2.length c0_2]) (t := 30) ?hr ?_; (case hd => rfl); (case hg => rfl); (case hr => first | (go_simp; done) | (go_simp; rfl)); intro gb683 hg w22 hbox hb; have n0_ := Aside0.mk (below_step (qB) hb); have n1_ := Aside0.mk (hbox); have n2_ := Aside0.mk ((by rw [hg]; exact (below_size (qB)) : w.heap.size ≤ gb683)); have n3_ := Aside0.mk ((by rw [hg]; exact (below_size (qB)) : w.heap.size ≤ gb683)); clear HB; have HB := n0_; have BK683 := n1_; have GW683 := n2_; have GE683 := n3_; clear n0_ n1_ n2_ n3_; clear hb hbox hg; have hcz23_0 : w22.cell? ⟨gb683, 0, none⟩ = some (.int .i64 a0_0) := (blk_cell BK683.out 0).trans rfl; have hcz23_1 : w22.cell? ⟨gb683, 1, none⟩ = some (.slice A0_1 l0_1.length c0_1) := (blk_cell BK683.out 1).trans rfl; have hcz23_2 : w22.cell? ⟨gb683, 2, none⟩ = some (.slice A0_2 l0_2.length c0_2) := (blk_cell BK683.out 2).trans rfl; have hfz23_0 := blk_frozen BK683.out 0; have hfz23_1 := blk_frozen BK683.out 1; have hfz23_2 := blk_frozen BK683.out 2) | ((with_reducible refine gate_callee (f := 14) rfl ?_); refine goesL_ (some 8) rfl rfl Try.func14 (by kernel_rfl) rfl #[.agg #[.int .i64 a0_0, .slice A0_1 l0_1.length c0_1, .slice A0_2 l0_2.length c0_2]] rfl qG ?_; (with_reducible refine (impl_GoodCircuit.calls k a0_0 _ _ l0_1 _ _ l0_2 true _ ?side1 ?side2 ?side3 ?side4 A4.out).mono ?_); (case side1 => exact qC (Kd.C_below HR0_1.out HB.out)); (case side2 => exact HC0_1.out); (case side3 => exact qC (Kd.C_below HR0_2.out HB.out)); (case side4 => exact HC0_2.out); rintro e w24 ⟨rfl, hb⟩; refine ⟨_, rfl, ?_⟩; have n0_ := Aside0.mk (blk_below (g := gb683) (o := .cells #[.int .i64 a0_0, .slice A0_1 l0_1.length c0_1, .slice A0_2 l0_2.length c0_2] 30 (0, 0)) (qK BK683.out) hb); have n1_ := Aside0.mk (below_step (qB) hb); clear BK683; clear HB; have BK683 := n0_; have HB := n1_; clear n0_ n1_; (try clear hb); (try clear hb2); (try clear hk); (try clear hi); have hcz25_0 : w24.cell? ⟨gb683, 0, none⟩ = some (.int .i64 a0_0) := (blk_cell BK683.out 0).trans rfl; have hcz25_1 : w24.cell? ⟨gb683, 1, none⟩ = some (.slice A0_1 l0_1.length c0_1) := (blk_cell BK683.out 1).trans rfl; have hcz25_2 : w24.cell? ⟨gb683, 2, none⟩ = some (.slice A0_2 l0_2.length c0_2) := (blk_cell BK683.out 2).trans rfl; have hfz25_0 := blk_frozen BK683.out 0; have hfz25_1 := blk_frozen BK683.out 1; have hfz25_2 := blk_frozen BK683.out 2) | (go_at_call 49; (with_reducible refine (impl_Circuit_wires.calls a0_0 _ _ l0_1 _ _ l0_2 t685 _ ?side1 ?side2 ?side3 ?side4 A8.out).mono ?_); (case side1 => exact qC (Kd.C_below HR0_1.out HB.out)); (case side2 => exact HC0_1.out); (case side3 => exact qC (Kd.C_below HR0_2.out HB.out)); (case side4 => exact HC0_2.out); rintro e w26 ⟨rfl, hb⟩; have n0_ := Aside0.mk (blk_below (g := gb683) (o := .cells #[.int .i64 a0_0, .slice A0_1 l0_1.length c0_1, .slice A0_2 l0_2.length c0_2] 30 (0, 0)) (qK BK683.out) hb); have n1_ := Aside0.mk (below_step (qB) hb); clear BK683; clear HB; have BK683 := n0_; have HB := n1_; clear n0_ n1_; (try clear hb); (try clear hb2); (try clear hk); (try clear hi)) | (go_at_call 48; (with_reducible refine (impl_areWiresBelow.calls _ _ l1 t685 false _ ?side1 ?side2 A9.out).mono ?_); (case side1 => exact qC (Kd.C_below HR1.out HB.out)); (case side2 => exact HC1.out); rintro e w27 ⟨rfl, hb⟩; have n0_ := Aside0.mk (blk_below (g := gb683) (o := .cells #[.int .i64 a0_0, .slice A0_1 l0_1.length c0_1, .slice A0_2 l0_2.length c0_2] 30 (0, 0)) (qK BK683.out) hb); have n1_ := Aside0.mk (below_step (qB) hb); clear BK683; clear HB; have BK683 := n0_; have HB := n1_; clear n0_ n1_; (try clear hb); (try clear hb2); (try clear hk); (try clear hi)))
     go_ret
     exact ⟨qE, qB⟩
   ·rw [if_neg c7] at H
    have c7b0 : decide ((l1.length : Int) ≤ 16) = false := decide_eq_false c7
    have c7b1 : decide (l1.length ≤ 16) = false := decide_eq_false (by omega)
    clear c7
    obtain rfl := Option.some.inj H
    go_enter Try.func61, Try.ntmps61
    go_wp2_with (first | ((with_reducible refine gate_dst (N := 3) rfl ?_); (try (refine gate_guard (by rfl) ?_; dsimp only)); refine box_event ?hg (N := 3) ?hd (cs := #[.int .i64 a0_0, .slice A0_1 l0_1.length c0_1, .slice A0_2 l0_2.length c0_2]) (t := 30) ?hr ?_; (case hd => rfl); (case hg => rfl); (case hr => first | (go_simp; done) | (go_simp; rfl)); intro gb683 hg w28 hbox hb; have n0_ := Aside0.mk (below_step (qB) hb); have n1_ := Aside0.mk (hbox); have n2_ := Aside0.mk ((by rw [hg]; exact (below_size (qB)) : w.heap.size ≤ gb683)); have n3_ := Aside0.mk ((by rw [hg]; exact (below_size (qB)) : w.heap.size ≤ gb683)); clear HB; have HB := n0_; have BK683 := n1_; have GW683 := n2_; have GE683 := n3_; clear n0_ n1_ n2_ n3_; clear hb hbox hg; have hcz29_0 : w28.cell? ⟨gb683, 0, none⟩ = some (.int .i64 a0_0) := (blk_cell BK683.out 0).trans rfl; have hcz29_1 : w28.cell? ⟨gb683, 1, none⟩ = some (.slice A0_1 l0_1.length c0_1) := (blk_cell BK683.out 1).trans rfl; have hcz29_2 : w28.cell? ⟨gb683, 2, none⟩ = some (.slice A0_2 l0_2.length c0_2) := (blk_cell BK683.out 2).trans rfl; have hfz29_0 := blk_frozen BK683.out 0; have hfz29_1 := blk_frozen BK683.out 1; have hfz29_2 := blk_frozen BK683.out 2) | ((with_reducible refine gate_callee (f := 14) rfl ?_); refine goesL_ (some 8) rfl rfl Try.func14 (by kernel_rfl) rfl #[.agg #[.int .i64 a0_0, .slice A0_1 l0_1.length c0_1, .slice A0_2 l0_2.length c0_2]] rfl qG ?_; (with_reducible refine (impl_GoodCircuit.calls k a0_0 _ _ l0_1 _ _ l0_2 true _ ?side1 ?side2 ?side3 ?side4 A4.out).mono ?_); (case side1 => exact qC (Kd.C_below HR0_1.out HB.out)); (case side2 => exact HC0_1.out); (case side3 => exact qC (Kd.C_below HR0_2.out HB.out)); (case side4 => exact HC0_2.out); rintro e w30 ⟨rfl, hb⟩; refine ⟨_, rfl, ?_⟩; have n0_ := Aside0.mk (blk_below (g := gb683) (o := .cells #[.int .i64 a0_0, .slice A0_1 l0_1.length c0_1, .slice A0_2 l0_2.length c0_2] 30 (0, 0)) (qK BK683.out) hb); have n1_ := Aside0.mk (below_step (qB) hb); clear BK683; clear HB; have BK683 := n0_; have HB := n1_; clear n0_ n1_; (try clear hb); (try clear hb2); (try clear hk); (try clear hi)))
    go_ret
    exact ⟨qE, qB⟩
  ·rw [if_neg c6] at H
   have c6b0 : ((l1.length : Int) == (l2.length : Int)) = false := beq_eq_false_iff_ne.mpr c6
   have c6b1 : ((l1.length : Int) != (l2.length : Int)) = true := bne_iff_ne.mpr c6
   have c6b2 : (l1.length == l2.length) = false := by first | simpa using c6 | (simp at c6 ⊢; omega)
   obtain rfl := Option.some.inj H
   go_enter Try.func61, Try.ntmps61
   go_wp2_with (first | ((with_reducible refine gate_dst (N := 3) rfl ?_); (try (refine gate_guard (by rfl) ?_; dsimp only)); refine box_event ?hg (N := 3) ?hd (cs := #[.int .i64 a0_0, .slice A0_1 l0_1.length c0_1, .slice A0_2 l0_2.length c0_2]) (t := 30) ?hr ?_; (case hd => rfl); (case hg => rfl); (case hr => first | (go_simp; done) | (go_simp; rfl)); intro gb683 hg w31 hbox hb; have n0_ := Aside0.mk (below_step (qB) hb); have n1_ := Aside0.mk (hbox); have n2_ := Aside0.mk ((by rw [hg]; exact (below_size (qB)) : w.heap.size ≤ gb683)); have n3_ := Aside0.mk ((by rw [hg]; exact (below_size (qB)) : w.heap.size ≤ gb683)); clear HB; have HB := n0_; have BK683 := n1_; have GW683 := n2_; have GE683 := n3_; clear n0_ n1_ n2_ n3_; clear hb hbox hg; have hcz32_0 : w31.cell? ⟨gb683, 0, none⟩ = some (.int .i64 a0_0) := (blk_cell BK683.out 0).trans rfl; have hcz32_1 : w31.cell? ⟨gb683, 1, none⟩ = some (.slice A0_1 l0_1.length c0_1) := (blk_cell BK683.out 1).trans rfl; have hcz32_2 : w31.cell? ⟨gb683, 2, none⟩ = some (.slice A0_2 l0_2.length c0_2) := (blk_cell BK683.out 2).trans rfl; have hfz32_0 := blk_frozen BK683.out 0; have hfz32_1 := blk_frozen BK683.out 1; have hfz32_2 := blk_frozen BK683.out 2) | ((with_reducible refine gate_callee (f := 14) rfl ?_); refine goesL_ (some 8) rfl rfl Try.func14 (by kernel_rfl) rfl #[.agg #[.int .i64 a0_0, .slice A0_1 l0_1.length c0_1, .slice A0_2 l0_2.length c0_2]] rfl qG ?_; (with_reducible refine (impl_GoodCircuit.calls k a0_0 _ _ l0_1 _ _ l0_2 true _ ?side1 ?side2 ?side3 ?side4 A4.out).mono ?_); (case side1 => exact qC (Kd.C_below HR0_1.out HB.out)); (case side2 => exact HC0_1.out); (case side3 => exact qC (Kd.C_below HR0_2.out HB.out)); (case side4 => exact HC0_2.out); rintro e w33 ⟨rfl, hb⟩; refine ⟨_, rfl, ?_⟩; have n0_ := Aside0.mk (blk_below (g := gb683) (o := .cells #[.int .i64 a0_0, .slice A0_1 l0_1.length c0_1, .slice A0_2 l0_2.length c0_2] 30 (0, 0)) (qK BK683.out) hb); have n1_ := Aside0.mk (below_step (qB) hb); clear BK683; clear HB; have BK683 := n0_; have HB := n1_; clear n0_ n1_; (try clear hb); (try clear hb2); (try clear hk); (try clear hi)))
   go_ret
   exact ⟨qE, qB⟩
 ·replace c5 := Bool.eq_false_iff.mpr c5
  subst c5
  have H1 : (some false) = some r := by rw [if_neg (show ¬ (false = true) by decide)] at H; exact H
  clear H
  have H := H1
  clear H1
  obtain rfl := Option.some.inj H
  go_enter Try.func61, Try.ntmps61
  go_wp2_with (first | ((with_reducible refine gate_dst (N := 3) rfl ?_); (try (refine gate_guard (by rfl) ?_; dsimp only)); refine box_event ?hg (N := 3) ?hd (cs := #[.int .i64 a0_0, .slice A0_1 l0_1.length c0_1, .slice A0_2 l0_2.length c0_2]) (t := 30) ?hr ?_; (case hd => rfl); (case hg => rfl); (case hr => first | (go_simp; done) | (go_simp; rfl)); intro gb683 hg w34 hbox hb; have n0_ := Aside0.mk (below_step (qB) hb); have n1_ := Aside0.mk (hbox); have n2_ := Aside0.mk ((by rw [hg]; exact (below_size (qB)) : w.heap.size ≤ gb683)); have n3_ := Aside0.mk ((by rw [hg]; exact (below_size (qB)) : w.heap.size ≤ gb683)); clear HB; have HB := n0_; have BK683 := n1_; have GW683 := n2_; have GE683 := n3_; clear n0_ n1_ n2_ n3_; clear hb hbox hg; have hcz35_0 : w34.cell? ⟨gb683, 0, none⟩ = some (.int .i64 a0_0) := (blk_cell BK683.out 0).trans rfl; have hcz35_1 : w34.cell? ⟨gb683, 1, none⟩ = some (.slice A0_1 l0_1.length c0_1) := (blk_cell BK683.out 1).trans rfl; have hcz35_2 : w34.cell? ⟨gb683, 2, none⟩ = some (.slice A0_2 l0_2.length c0_2) := (blk_cell BK683.out 2).trans rfl; have hfz35_0 := blk_frozen BK683.out 0; have hfz35_1 := blk_frozen BK683.out 1; have hfz35_2 := blk_frozen BK683.out 2) | ((with_reducible refine gate_callee (f := 14) rfl ?_); refine goesL_ (some 8) rfl rfl Try.func14 (by kernel_rfl) rfl #[.agg #[.int .i64 a0_0, .slice A0_1 l0_1.length c0_1, .slice A0_2 l0_2.length c0_2]] rfl qG ?_; (with_reducible refine (impl_GoodCircuit.calls k a0_0 _ _ l0_1 _ _ l0_2 false _ ?side1 ?side2 ?side3 ?side4 A4.out).mono ?_); (case side1 => exact qC (Kd.C_below HR0_1.out HB.out)); (case side2 => exact HC0_1.out); (case side3 => exact qC (Kd.C_below HR0_2.out HB.out)); (case side4 => exact HC0_2.out); rintro e w36 ⟨rfl, hb⟩; refine ⟨_, rfl, ?_⟩; have n0_ := Aside0.mk (blk_below (g := gb683) (o := .cells #[.int .i64 a0_0, .slice A0_1 l0_1.length c0_1, .slice A0_2 l0_2.length c0_2] 30 (0, 0)) (qK BK683.out) hb); have n1_ := Aside0.mk (below_step (qB) hb); clear BK683; clear HB; have BK683 := n0_; have HB := n1_; clear n0_ n1_; (try clear hb); (try clear hb2); (try clear hk); (try clear hi)))
  go_ret
  exact ⟨qE, qB⟩

-- IMPORT Derived.Lib.SliceRun
/-! ### slices_Clone_impl_Gate: function 81 -/
def slices_Clone_impl_Gate.f (l0 : List (S59)) : Option ((List (S59))) := (some (([] : List (S59)) : List (S59))).bind fun y689 => (if y689.length + l0.length < 5864062014805 then (some (y689 ++ l0)) else (none))
set_option maxHeartbeats 8000000 in
set_option maxRecDepth 100000 in
theorem slices_Clone_impl_Gate.calls (A0 : Option Addr) (c0 : Nat) (l0 : List (S59)) (r : List (S59)) (w : World) (hr0 : Kd.C k59 w A0 l0.length l0) (hc0 : l0.length ≤ c0) (h : slices_Clone_impl_Gate.f l0 = some r) :
  Calls Try.prog 81 #[.slice A0 l0.length c0] w fun e w' => ∃ v0_ : Value, e = .returned (v0_) ∧ Kd.R k59 59 w' w.heap.size (fun _ => True) v0_ r ∧ Below w.heap.size w w' := by
 have HR0 := Aside0.mk hr0
 have HC0 := Aside0.mk hc0
 clear hr0 hc0
 have HB := Aside0.mk (Below.refl w.heap.size w)
 have H : ((some (([] : List (S59)) : List (S59))).bind fun y689 => (if y689.length + l0.length < 5864062014805 then (some (y689 ++ l0)) else (none))) = some r := h
 clear h
 rcases A0 with _ | ad_
 ·have hl0 : l0 = [] := by
   rcases l0 with _ | ⟨x, s⟩
   ·rfl
   ·obtain ⟨ad, e_, _⟩ := HR0.out.2.2 (by simp)
    cases e_
  obtain rfl : r = [] := by
   subst hl0
   simpa using H.symm
  subst hl0
  have heq_ := fun w : World => Go.Lib.run_eql_slice_nil (P := Try.prog) w 28 59 none 0 c0 0 0 Try.underlying28
  simp only [Option.isNone_none] at heq_
  clear H
  go_enter Try.func81, Try.ntmps81
  go_wp2
  go_ret
  exact ⟨.slice none 0 0, rfl, Kd.R_nil _ _ _ _ _, HB.out⟩
 ·skip
  have heq_ := fun w : World => Go.Lib.run_eql_slice_nil (P := Try.prog) w 28 59 (some ad_) l0.length c0 0 0 Try.underlying28
  simp only [Option.isNone_some] at heq_
  obtain ⟨y689, hy689⟩ : ∃ y_ : List (S59), y_ = (([] : List (S59))) := ⟨_, rfl⟩
  replace H : (if y689.length + l0.length < 5864062014805 then (some (y689 ++ l0)) else (none)) = some r := qY hy689 H
  have Ny689 := Aside0.mk hy689
  clear hy689
  by_cases c2 : y689.length + l0.length < 5864062014805
  ·rw [if_pos c2] at H
   have LMc2 := Aside0.mk c2
   clear c2
   obtain ⟨y692, hy692⟩ : ∃ y_ : List (S59), y_ = (y689 ++ l0) := ⟨_, rfl⟩
   replace H : (some y692) = some r := qY hy692 H
   have Ny692 := Aside0.mk hy692
   clear hy692
   obtain rfl := Option.some.inj H
   go_enter Try.func81, Try.ntmps81
   go_wp2_with (first | ((with_reducible refine gate_dst (N := 5) rfl ?_); refine Kd.R_lit k59 _ 59 ?hg (N := 5) ?hd (xs := ([] : List (S59))) (inner := []) (ok := fun _ => True) (okp := fun _ => True) ?hr ?hp (fun _ hk => hk) trivial (Below.refl _ _) (Nat.le_refl _) (by simp) ?_; (case hd => rfl); (case hg => rfl); (case hr => first | (go_simp; done) | (go_simp; rfl)); (case hp => exact (Reps.none _ _)); intro v690 w3 ho4 hb hg_ hnew_; clear hg_ hnew_; (first | rw [← Ny689.out] at ho4 | (simp only [Int.reduceToNat] at ho4; rw [← Ny689.out] at ho4)); have n0_ := Aside0.mk (Kd.R_lower ho4 (below_size (qB))); have n1_ := Aside0.mk (below_step (qB) hb); clear HB; have HO691 := n0_; have HB := n1_; clear n0_ n1_; clear hb ho4) | ((with_reducible refine gate_builtin (b := .append) (xs := #[.tmp 5, .tmp 6]) rfl ?_); at_builtin; refine Kd.R_append_rows k59 (w0 := w) w.heap.size rfl (.tmp 5) (.tmp 6) 28 59 (.agg #[(.int .i64 0), (.int .i64 0), (.int .i64 0)]) 24 rfl Try.underlying28 info59 rfl (by decide) (by omega) v690 y689 l0 _ _ _ (fun _ => True) (fun _ => False) rfl rfl ?aO ?aR (fun _ _ h => h) (fun _ h => h.elim) ?aF ?aB ?aS ?aL ?_; (case aR => exact qC (Kd.C_below HR0.out HB.out)); (case aB => exact (qB)); (case aF => exact (fun _ _ => trivial)); (case aO => exact (qR HO691.out)); (case aS => exact (below_size (qB))); (case aL => have := LMc2.out; omega); intro v693 w5 ho hb hg hat; rw [← Ny692.out] at ho; have n0_ := Aside0.mk (hb); have n1_ := Aside0.mk (ho); clear HB; clear HO691; have HB := n0_; have HO694 := n1_; clear n0_ n1_; clear ho hb hg hat))
   go_ret
   exact ⟨_, qE, qR HO694.out, qB⟩
  ·rw [if_neg c2] at H
   exact absurd H (by simp)

-- IMPORT Derived.Lib.SliceRun
/-! ### slices_Clone_int: function 82 -/
def slices_Clone_int.f (l0 : List Int) : Option (List Int) := (some (([] : List Int) : List Int)).bind fun y695 => (if y695.length + l0.length < 17592186044416 then (some (y695 ++ l0)) else (none))
set_option maxHeartbeats 8000000 in
set_option maxRecDepth 100000 in
theorem slices_Clone_int.calls (A0 : Option Addr) (c0 : Nat) (l0 : List Int) (r : List Int) (w : World) (hr0 : Kd.C (Kd.int .i64) w A0 l0.length l0) (hc0 : l0.length ≤ c0) (h : slices_Clone_int.f l0 = some r) :
  Calls Try.prog 82 #[.slice A0 l0.length c0] w fun e w' => ∃ v0_ : Value, e = .returned (v0_) ∧ Kd.R (Kd.int .i64) 3 w' w.heap.size (fun _ => True) v0_ r ∧ Below w.heap.size w w' := by
 have HR0 := Aside0.mk hr0
 have HC0 := Aside0.mk hc0
 clear hr0 hc0
 have HB := Aside0.mk (Below.refl w.heap.size w)
 have H : ((some (([] : List Int) : List Int)).bind fun y695 => (if y695.length + l0.length < 17592186044416 then (some (y695 ++ l0)) else (none))) = some r := h
 clear h
 rcases A0 with _ | ad_
 ·have hl0 : l0 = [] := by
   rcases l0 with _ | ⟨x, s⟩
   ·rfl
   ·obtain ⟨ad, e_, _⟩ := HR0.out.2.2 (by simp)
    cases e_
  obtain rfl : r = [] := by
   subst hl0
   simpa using H.symm
  subst hl0
  have heq_ := fun w : World => Go.Lib.run_eql_slice_nil (P := Try.prog) w 23 3 none 0 c0 0 0 Try.underlying23
  simp only [Option.isNone_none] at heq_
  clear H
  go_enter Try.func82, Try.ntmps82
  go_wp2
  go_ret
  exact ⟨.slice none 0 0, rfl, Kd.R_nil _ _ _ _ _, HB.out⟩
 ·skip
  have heq_ := fun w : World => Go.Lib.run_eql_slice_nil (P := Try.prog) w 23 3 (some ad_) l0.length c0 0 0 Try.underlying23
  simp only [Option.isNone_some] at heq_
  obtain ⟨y695, hy695⟩ : ∃ y_ : List Int, y_ = (([] : List Int)) := ⟨_, rfl⟩
  replace H : (if y695.length + l0.length < 17592186044416 then (some (y695 ++ l0)) else (none)) = some r := qY hy695 H
  have Ny695 := Aside0.mk hy695
  clear hy695
  by_cases c2 : y695.length + l0.length < 17592186044416
  ·rw [if_pos c2] at H
   have LMc2 := Aside0.mk c2
   clear c2
   obtain ⟨y698, hy698⟩ : ∃ y_ : List Int, y_ = (y695 ++ l0) := ⟨_, rfl⟩
   replace H : (some y698) = some r := qY hy698 H
   have Ny698 := Aside0.mk hy698
   clear hy698
   obtain rfl := Option.some.inj H
   go_enter Try.func82, Try.ntmps82
   go_wp2_with (first | ((with_reducible refine gate_dst (N := 5) rfl ?_); refine Kd.R_lit (Kd.int .i64) _ 3 ?hg (N := 5) ?hd (xs := ([] : List Int)) (inner := []) (ok := fun _ => True) (okp := fun _ => True) ?hr ?hp (fun _ hk => hk) trivial (Below.refl _ _) (Nat.le_refl _) (by simp) ?_; (case hd => rfl); (case hg => rfl); (case hr => first | (go_simp; done) | (go_simp; rfl)); (case hp => exact (Reps.none _ _)); intro v696 w3 ho4 hb hg_ hnew_; clear hg_ hnew_; (first | rw [← Ny695.out] at ho4 | (simp only [Int.reduceToNat] at ho4; rw [← Ny695.out] at ho4)); have n0_ := Aside0.mk (Kd.R_lower ho4 (below_size (qB))); have n1_ := Aside0.mk (below_step (qB) hb); clear HB; have HO697 := n0_; have HB := n1_; clear n0_ n1_; clear hb ho4) | ((with_reducible refine gate_builtin (b := .append) (xs := #[.tmp 5, .tmp 6]) rfl ?_); at_builtin; refine Kd.R_append_rows (Kd.int .i64) (w0 := w) w.heap.size rfl (.tmp 5) (.tmp 6) 23 3 (.int .i64 0) 8 rfl Try.underlying23 info3 rfl (by decide) (by omega) v696 y695 l0 _ _ _ (fun _ => True) (fun _ => False) rfl rfl ?aO ?aR (fun _ _ h => h) (fun _ h => h.elim) ?aF ?aB ?aS ?aL ?_; (case aR => exact qC (Kd.C_below HR0.out HB.out)); (case aB => exact (qB)); (case aF => exact (fun _ _ => trivial)); (case aO => exact (qR HO697.out)); (case aS => exact (below_size (qB))); (case aL => have := LMc2.out; omega); intro v699 w5 ho hb hg hat; rw [← Ny698.out] at ho; have n0_ := Aside0.mk (hb); have n1_ := Aside0.mk (ho); clear HB; clear HO697; have HB := n0_; have HO700 := n1_; clear n0_ n1_; clear ho hb hg hat))
   go_ret
   exact ⟨_, qE, qR HO700.out, qB⟩
  ·rw [if_neg c2] at H
   exact absurd H (by simp)


/-! ### impl_copyCircuit: function 62 -/
def impl_copyCircuit.f (a0_0 : Int) (l0_1 : List (S59)) (l0_2 : List Int) : Option (Int × (List (S59)) × List Int) := (slices_Clone_impl_Gate.f l0_1).bind fun t703 => ((slices_Clone_int.f l0_2).bind fun t706 => (some (a0_0, t703, t706)))
def impl_copyCircuit.T1 : Bool × List (List Nat × List Nat) := (true, [([], []), ([0], [0]), ([], []), ([2], [2]), ([3], [3]), ([], []), ([5], [5]), ([6, 4], [6]), ([1, 4, 7], [1, 4, 7]), ([8, 7, 0, 1, 2, 3, 4, 5, 6, 7, 8], [8])])
def impl_copyCircuit.B1 : List Nat := [0, 1, 0, 4, 12, 0, 32, 124, 255, 511]
theorem impl_copyCircuit.tab1 : rtab .any (opsOf Try.f62 1) = impl_copyCircuit.T1 := by kernel_rfl
theorem impl_copyCircuit.bits1 : waitsOk impl_copyCircuit.T1.2 impl_copyCircuit.B1 = true := by kernel_rfl
set_option maxHeartbeats 8000000 in
set_option maxRecDepth 100000 in
theorem impl_copyCircuit.calls (a0_0 : Int) (A0_1 : Option Addr) (c0_1 : Nat) (l0_1 : List (S59)) (A0_2 : Option Addr) (c0_2 : Nat) (l0_2 : List Int) (r1 : Int) (r2 : List (S59)) (r3 : List Int) (w : World) (hr0_1 : Kd.C k59 w A0_1 l0_1.length l0_1) (hc0_1 : l0_1.length ≤ c0_1) (hr0_2 : Kd.C (Kd.int .i64) w A0_2 l0_2.length l0_2) (hc0_2 : l0_2.length ≤ c0_2) (h : impl_copyCircuit.f a0_0 l0_1 l0_2 = some (r1, r2, r3)) :
  Calls Try.prog 62 #[.agg #[.int .i64 a0_0, .slice A0_1 l0_1.length c0_1, .slice A0_2 l0_2.length c0_2]] w fun e w' => ∃ v1_ v2_ : Value, e = .returned (.agg #[.int .i64 r1, v1_, v2_]) ∧ Kd.R k59 59 w' w.heap.size (fun _ => True) v1_ r2 ∧ Kd.R (Kd.int .i64) 3 w' w.heap.size (fun _ => True) v2_ r3 ∧ Below w.heap.size w w' := by
 have hu30 := Try.underlying30
 have HR0_1 := Aside0.mk hr0_1
 have HC0_1 := Aside0.mk hc0_1
 clear hr0_1 hc0_1
 have HR0_2 := Aside0.mk hr0_2
 have HC0_2 := Aside0.mk hc0_2
 clear hr0_2 hc0_2
 have HB := Aside0.mk (Below.refl w.heap.size w)
 have H : ((slices_Clone_impl_Gate.f l0_1).bind fun t703 => ((slices_Clone_int.f l0_2).bind fun t706 => (some (a0_0, t703, t706)))) = some (r1, r2, r3) := h
 clear h
 replace H := Option.bind_eq_some_iff.mp H
 obtain ⟨t703, A20, H⟩ := H
 replace H : ((slices_Clone_int.f l0_2).bind fun t706 => (some (a0_0, t703, t706))) = some (r1, r2, r3) := H
 have A2 := Aside0.mk A20
 clear A20
 replace H := Option.bind_eq_some_iff.mp H
 obtain ⟨t706, A30, H⟩ := H
 replace H : (some (a0_0, t703, t706)) = some (r1, r2, r3) := H
 have A3 := Aside0.mk A30
 clear A30
 simp only [Option.some.injEq, Prod.mk.injEq] at H
 obtain ⟨rfl, rfl, rfl⟩ := H
 go_enter Try.func62, Try.ntmps62
 try go_wp2_with (first | ((with_reducible refine gate_dst (N := 1) rfl ?_); refine box_event ?hg (N := 1) ?hd (cs := #[.int .i64 a0_0, .slice A0_1 l0_1.length c0_1, .slice A0_2 l0_2.length c0_2]) (t := 30) ?hr ?_; (case hd => rfl); (case hg => rfl); (case hr => first | (go_simp; done) | (go_simp; rfl)); intro gb701 hg w4 hbox hb; have n0_ := Aside0.mk (below_step (qB) hb); have n1_ := Aside0.mk (hbox); have n2_ := Aside0.mk ((by rw [hg]; exact (below_size (qB)) : w.heap.size ≤ gb701)); have n3_ := Aside0.mk ((by rw [hg]; exact (below_size (qB)) : w.heap.size ≤ gb701)); clear HB; have HB := n0_; have BK701 := n1_; have GW701 := n2_; have GE701 := n3_; clear n0_ n1_ n2_ n3_; clear hb hbox hg) | ((with_reducible refine gate_dst (N := 2) rfl ?_); refine box_event ?hg (N := 2) ?hd (cs := #[.int .i64 0, .slice none 0 0, .slice none 0 0]) (t := 30) ?hr ?_; (case hd => rfl); (case hg => rfl); (case hr => first | (go_simp; done) | (go_simp; rfl)); intro gb702 hg w5 hbox hb; have n0_ := Aside0.mk (blk_below (g := gb701) (o := .cells #[.int .i64 a0_0, .slice A0_1 l0_1.length c0_1, .slice A0_2 l0_2.length c0_2] 30 (0, 0)) (qK BK701.out) hb); have n1_ := Aside0.mk (below_step (qB) hb); have n2_ := Aside0.mk (hbox); have n3_ := Aside0.mk ((by rw [hg]; exact (below_size (qB)) : w.heap.size ≤ gb702)); have n4_ := Aside0.mk ((by rw [hg]; exact (below_size (qB)) : w.heap.size ≤ gb702)); have n5_ := Aside0.mk ((by rw [hg]; exact Nat.ne_of_lt (blk_lt (g := gb701) (o := .cells #[.int .i64 a0_0, .slice A0_1 l0_1.length c0_1, .slice A0_2 l0_2.length c0_2] 30 (0, 0)) (qK BK701.out)) : gb701 ≠ gb702)); have n6_ := Aside0.mk ((by rw [hg]; exact Nat.ne_of_gt (blk_lt (g := gb701) (o := .cells #[.int .i64 a0_0, .slice A0_1 l0_1.length c0_1, .slice A0_2 l0_2.length c0_2] 30 (0, 0)) (qK BK701.out)) : gb702 ≠ gb701)); clear BK701; clear HB; have BK701 := n0_; have HB := n1_; have BK702 := n2_; have GW702 := n3_; have GE702 := n4_; have NB701_702 := n5_; have NB702_701 := n6_; clear n0_ n1_ n2_ n3_ n4_ n5_ n6_; clear hb hbox hg))
 have n0_ := Aside0.mk (blk_drew BK701.out)
 have n1_ := Aside0.mk (blk_drew BK702.out)
 have n2_ := Aside0.mk (below_drew1 HB.out)
 clear BK701
 clear BK702
 clear HB
 have BK701 := n0_
 have BK702 := n1_
 have HB := n2_
 clear n0_ n1_ n2_
 refine start_ (n := 10) (S := fun w' => w'.cell? ⟨gb701, 0, none⟩ = some (.int .i64 a0_0) ∧ w'.cell? ⟨gb701, 1, none⟩ = some (.slice A0_1 l0_1.length c0_1) ∧ w'.cell? ⟨gb701, 2, none⟩ = some (.slice A0_2 l0_2.length c0_2)) (ds := []) #[false, false, false, false, false, false, false, false, false, false] (by kernel_rfl) rfl rfl ⟨(blk_cell BK701.out 0).trans rfl, (blk_cell BK701.out 1).trans rfl, (blk_cell BK701.out 2).trans rfl⟩ (fun hHeld => ?_); refine with_tabW impl_copyCircuit.tab1 impl_copyCircuit.bits1 (fun HT_ HW_ => ?_)
 generalize w5.drew = w6 at BK701 BK702 HB hHeld ⊢
 refine pure_ (i := 0) (N := some 3) (v := ?_) (a' := ?_) #[true, false, false, false, false, false, false, false, false, false] rfl rfl (any_of HT_.out (by kernel_rfl)) (fun _ _ _ h => h) (Or.inl ⟨by rfl, ?_⟩) ?_ ?_
 rotate_left
 ·intro w'
  go_simp
  with_reducible rfl
 rotate_left
 ·simp only [Act.put, List.setIfInBounds_toArray, List.set_cons_zero, List.set_cons_succ, i64_w, i32_w]
  rfl
 refine pure_ (i := 2) (N := some 5) (v := ?_) (a' := ?_) #[true, false, true, false, false, false, false, false, false, false] rfl rfl (any_of HT_.out (by kernel_rfl)) (fun _ _ _ h => h) (Or.inl ⟨by rfl, ?_⟩) ?_ ?_
 rotate_left
 ·intro w'
  go_simp
  with_reducible rfl
 rotate_left
 ·simp only [Act.put, List.setIfInBounds_toArray, List.set_cons_zero, List.set_cons_succ, i64_w, i32_w]
  rfl
 refine pure_ (i := 5) (N := some 8) (v := ?_) (a' := ?_) #[true, false, true, false, false, true, false, false, false, false] rfl rfl (any_of HT_.out (by kernel_rfl)) (fun _ _ _ h => h) (Or.inl ⟨by rfl, ?_⟩) ?_ ?_
 rotate_left
 ·intro w'
  go_simp
  with_reducible rfl
 rotate_left
 ·simp only [Act.put, List.setIfInBounds_toArray, List.set_cons_zero, List.set_cons_succ, i64_w, i32_w]
  rfl
 refine take_ (i := 1) (N := some 4) (v := ?_) (a' := ?_) #[true, true, true, false, false, true, false, false, false, false] rfl rfl (take_ofW HT_.out HW_.out (by kernel_rfl)) (fun _ _ _ h => h) (Or.inl ⟨by rfl, ?_⟩) hHeld ?_ ?_
 rotate_left
 ·rintro w' ⟨s0, s1, s2⟩
  go_simp
  with_reducible rfl
 rotate_left
 ·simp only [Act.put, List.setIfInBounds_toArray, List.set_cons_zero, List.set_cons_succ, i64_w, i32_w]
  rfl
 refine take_ (i := 3) (N := some 6) (v := ?_) (a' := ?_) #[true, true, true, true, false, true, false, false, false, false] rfl rfl (take_ofW HT_.out HW_.out (by kernel_rfl)) (fun _ _ _ h => h) (Or.inl ⟨by rfl, ?_⟩) hHeld ?_ ?_
 rotate_left
 ·rintro w' ⟨s0, s1, s2⟩
  go_simp
  with_reducible rfl
 rotate_left
 ·simp only [Act.put, List.setIfInBounds_toArray, List.set_cons_zero, List.set_cons_succ, i64_w, i32_w]
  rfl
 refine take_ (i := 6) (N := some 9) (v := ?_) (a' := ?_) #[true, true, true, true, false, true, true, false, false, false] rfl rfl (take_ofW HT_.out HW_.out (by kernel_rfl)) (fun _ _ _ h => h) (Or.inl ⟨by rfl, ?_⟩) hHeld ?_ ?_
 rotate_left
 ·rintro w' ⟨s0, s1, s2⟩
  go_simp
  with_reducible rfl
 rotate_left
 ·simp only [Act.put, List.setIfInBounds_toArray, List.set_cons_zero, List.set_cons_succ, i64_w, i32_w]
  rfl
 refine one_ (i := 4) (N := some 7) #[true, true, true, true, true, true, true, false, false, false] rfl rfl (one_of HT_.out (by kernel_rfl)) (by decide) (fun K hK => ?_)
 refine goes_ Try.func81 (by kernel_rfl) rfl #[.slice A0_1 l0_1.length c0_1] (by rfl) rfl rfl qG ?_
 with_reducible refine (slices_Clone_impl_Gate.calls _ _ l0_1 t703 _ ?side1 ?side2 A2.out).mono ?_
 (case side1 => exact qC (Kd.C_below HR0_1.out HB.out))
 (case side2 => exact HC0_1.out)
 rintro e w7 ⟨v704, rfl, ho0, hb⟩
 refine ⟨_, rfl, ?_⟩
 have n0_ := Aside0.mk (Kd.R_lower ho0 (below_size (qB)))
 have n1_ := Aside0.mk (blk_below (g := gb701) (o := .cells #[.int .i64 a0_0, .slice A0_1 l0_1.length c0_1, .slice A0_2 l0_2.length c0_2] 30 (0, 0)) (qK BK701.out) hb)
 have n2_ := Aside0.mk (blk_below (g := gb702) (o := .cells #[.int .i64 0, .slice none 0 0, .slice none 0 0] 30 (0, 0)) (qK BK702.out) hb)
 have n3_ := Aside0.mk (below_step (qB) hb)
 clear BK701
 clear BK702
 clear HB
 have HO705 := n0_
 have BK701 := n1_
 have BK702 := n2_
 have HB := n3_
 clear n0_ n1_ n2_ n3_
 (try clear hb)
 (try clear hb2)
 (try clear hk)
 (try clear hi)
 (try clear ho0)
 refine hK.out _ _ ⟨(blk_cell BK701.out 0).trans rfl, (blk_cell BK701.out 1).trans rfl, (blk_cell BK701.out 2).trans rfl⟩ (fun hHeld => ?_)
 clear hK K
 refine norm_ (a' := ?_) ?_ ?_
 rotate_left
 ·show Act.put _ (some 7) _ = _
  simp only [Act.put, List.setIfInBounds_toArray, List.set_cons_zero, List.set_cons_succ, i64_w, i32_w]
  rfl
 refine one_ (i := 7) (N := some 10) #[true, true, true, true, true, true, true, true, false, false] rfl rfl (one_of HT_.out (by kernel_rfl)) (by decide) (fun K hK => ?_)
 refine goes_ Try.func82 (by kernel_rfl) rfl #[.slice A0_2 l0_2.length c0_2] (by rfl) rfl rfl qG ?_
 with_reducible refine (slices_Clone_int.calls _ _ l0_2 t706 _ ?side1 ?side2 A3.out).mono ?_
 (case side1 => exact qC (Kd.C_below HR0_2.out HB.out))
 (case side2 => exact HC0_2.out)
 rintro e w8 ⟨v707, rfl, ho0, hb⟩
 refine ⟨_, rfl, ?_⟩
 have n0_ := Aside0.mk (Kd.R_below (qR HO705.out) hb)
 have n1_ := Aside0.mk (Kd.R_lower ho0 (below_size (qB)))
 have n2_ := Aside0.mk (blk_below (g := gb701) (o := .cells #[.int .i64 a0_0, .slice A0_1 l0_1.length c0_1, .slice A0_2 l0_2.length c0_2] 30 (0, 0)) (qK BK701.out) hb)
 have n3_ := Aside0.mk (blk_below (g := gb702) (o := .cells #[.int .i64 0, .slice none 0 0, .slice none 0 0] 30 (0, 0)) (qK BK702.out) hb)
 have n4_ := Aside0.mk (below_step (qB) hb)
 clear HO705
 clear BK701
 clear BK702
 clear HB
 have HO705 := n0_
 have HO708 := n1_
 have BK701 := n2_
 have BK702 := n3_
 have HB := n4_
 clear n0_ n1_ n2_ n3_ n4_
 (try clear hb)
 (try clear hb2)
 (try clear hk)
 (try clear hi)
 (try clear ho0)
 obtain ⟨Ao9, co9, eo9⟩ := Kd.R_slice HO708.out
 (first | subst eo9 | (injection eo9 with f1_ f2_ f3_; have f4_ := f1_.symm; have f5_ := f3_.symm; clear f1_ f2_ f3_; subst f4_; subst f5_))
 obtain ⟨Ao10, co10, eo10⟩ := Kd.R_slice HO705.out
 (first | subst eo10 | (injection eo10 with f1_ f2_ f3_; have f4_ := f1_.symm; have f5_ := f3_.symm; clear f1_ f2_ f3_; subst f4_; subst f5_))
 refine hK.out _ _ ⟨(blk_cell BK701.out 0).trans rfl, (blk_cell BK701.out 1).trans rfl, (blk_cell BK701.out 2).trans rfl⟩ (fun hHeld => ?_)
 clear hK K
 refine norm_ (a' := ?_) ?_ ?_
 rotate_left
 ·show Act.put _ (some 10) _ = _
  simp only [Act.put, List.setIfInBounds_toArray, List.set_cons_zero, List.set_cons_succ, i64_w, i32_w]
  rfl
 refine pure_ (i := 8) (N := some 11) (v := ?_) (a' := ?_) #[true, true, true, true, true, true, true, true, true, false] rfl rfl (any_of HT_.out (by kernel_rfl)) (fun _ _ _ h => h) (Or.inl ⟨by rfl, ?_⟩) ?_ ?_
 rotate_left
 ·intro w'
  go_simp
  with_reducible rfl
 rotate_left
 ·simp only [Act.put, List.setIfInBounds_toArray, List.set_cons_zero, List.set_cons_succ, i64_w, i32_w]
  rfl
 refine one_ (i := 9) (N := none) #[true, true, true, true, true, true, true, true, true, true] rfl rfl (one_of HT_.out (by kernel_rfl)) (by decide) (fun K hK => ?_)
 have hs11 : w8.cell? ⟨gb702, 0, none⟩ = some (.int .i64 0) := (blk_cell BK702.out 0).trans rfl
 have hfs11 := blk_frozen BK702.out 0
 have hns11_0 := NB701_702.out
 have hms11_0 := NB702_701.out
 have hs12 : w8.cell? ⟨gb702, 1, none⟩ = some (.slice none 0 0) := (blk_cell BK702.out 1).trans rfl
 have hfs12 := blk_frozen BK702.out 1
 have hns12_0 := NB701_702.out
 have hms12_0 := NB702_701.out
 have hs13 : w8.cell? ⟨gb702, 2, none⟩ = some (.slice none 0 0) := (blk_cell BK702.out 2).trans rfl
 have hfs13 := blk_frozen BK702.out 2
 have hns13_0 := NB701_702.out
 have hms13_0 := NB702_701.out
 refine skip_ (w1 := ?_) (by rfl) rfl ?_ ?_
 rotate_left
 ·go_simp
  rfl
 refine hK.out _ _ ⟨((cell_far (p := ⟨gb702, _, none⟩) NB701_702.out _).trans (((cell_far (p := ⟨gb702, _, none⟩) NB701_702.out _).trans (((cell_far (p := ⟨gb702, _, none⟩) NB701_702.out _).trans (hHeld.1)))))), ((cell_far (p := ⟨gb702, _, none⟩) NB701_702.out _).trans (((cell_far (p := ⟨gb702, _, none⟩) NB701_702.out _).trans (((cell_far (p := ⟨gb702, _, none⟩) NB701_702.out _).trans (hHeld.2.1)))))), ((cell_far (p := ⟨gb702, _, none⟩) NB701_702.out _).trans (((cell_far (p := ⟨gb702, _, none⟩) NB701_702.out _).trans (((cell_far (p := ⟨gb702, _, none⟩) NB701_702.out _).trans (hHeld.2.2))))))⟩ (fun hHeld => ?_)
 clear hK K
 refine done_ (done_of HT_.out (by kernel_rfl)) ?_
 try go_wp2
 refine bodyPost_ret (results_cell_row rfl _ _ gb702 30 #[.int .i64 a0_0, .slice Ao10 t703.length co10, .slice Ao9 t706.length co9] (0, 0) _ rfl (by (with_reducible repeat (first | refine blk_drewN ?_ _ | refine blk_drew ?_ | refine blk_alloc ?_ _)); refine blk_put (cs := #[.int .i64 a0_0, .slice Ao10 t703.length co10, .slice none 0 0]) ?_ 2 _ rfl; refine blk_put (cs := #[.int .i64 a0_0, .slice none 0 0, .slice none 0 0]) ?_ 1 _ rfl; refine blk_put (cs := #[.int .i64 0, .slice none 0 0, .slice none 0 0]) ?_ 0 _ rfl; exact qK BK702.out) Try.underlying30 rfl (by kernel_rfl)) rfl ?_
 exact ⟨_, _, qE, by (with_reducible repeat (first | apply Kd.R_alloc | apply Kd.R_drewN | apply Kd.R_drew)); exact Kd.R_mono (Kd.R_far (p := ⟨gb702, 2, none⟩) (Kd.R_far (p := ⟨gb702, 1, none⟩) (Kd.R_far (p := ⟨gb702, 0, none⟩) (Kd.R_types HO705.out BK702.out (by decide)) (fun _ hk => hk.2) (.int .i64 a0_0)) (fun _ hk => hk.2) (.slice Ao10 t703.length co10)) (fun _ hk => hk.2) (.slice Ao9 t706.length co9)) (fun _ hk => trivial), by (with_reducible repeat (first | apply Kd.R_alloc | apply Kd.R_drewN | apply Kd.R_drew)); exact Kd.R_mono (Kd.R_far (p := ⟨gb702, 2, none⟩) (Kd.R_far (p := ⟨gb702, 1, none⟩) (Kd.R_far (p := ⟨gb702, 0, none⟩) (Kd.R_types HO708.out BK702.out (by decide)) (fun _ hk => hk.2) (.int .i64 a0_0)) (fun _ hk => hk.2) (.slice Ao10 t703.length co10)) (fun _ hk => hk.2) (.slice Ao9 t706.length co9)) (fun _ hk => trivial), qB⟩


-- HAND
/-! ### impl_Circuit_put: function 83 -/
-- IMPORT Derived.StillTailTactics
set_option maxHeartbeats 8000000 in
set_option maxRecDepth 100000 in
/-- A gate that is put: its wire, and the circuit behind it. -/
theorem impl_Circuit_put.calls (G base : Nat) (ins : Int) (ov : Value) (g g' : List S59) (a1 a2 a3 n : Int) (w : World) (hb : base ≤ w.heap.size) (HBD : Bd 30 G base ins ov w g)
  (hi0 : 0 ≤ ins) (hi1 : ins ≤ 1000000) (hl : g.length ≤ 1000000) (hn : n = ins + (g.length : Int)) (hg' : g' = g ++ [⟨a1, a2, a3⟩]) :
  Calls Try.prog 83 #[.pointer (some ⟨G, 0, none⟩), .int .i64 a1, .int .i64 a2, .int .i64 a3] w fun e w' => e = .returned (.int .i64 n) ∧ Bd 30 G base ins ov w' g' ∧ Fr 59 G base w w' := by
 obtain ⟨gv, hG, hR⟩ := HBD
 have hGlt := blk_lt hG
 obtain ⟨A0, c0, rfl⟩ := Kd.R_slice hR
 have hne := Kd.R_ne hR hG (by decide)
 have hty := Kd.R_typed hR
 have hbs := Kd.R_base hR
 have hlt := Kd.R_lt hR
 have hc0 : w.cell? ⟨G, 0, none⟩ = some (.int .i64 ins) := (blk_cell hG 0).trans rfl
 have hc1 : w.cell? ⟨G, 1, none⟩ = some (.slice A0 g.length c0) := (blk_cell hG 1).trans rfl
 have hc2 : w.cell? ⟨G, 2, none⟩ = some ov := (blk_cell hG 2).trans rfl
 have HR := Aside0.mk hR
 have HG := Aside0.mk hG
 have HNE := Aside0.mk hne
 have HTY := Aside0.mk hty
 have HBS := Aside0.mk hbs
 have HN := Aside0.mk hn
 have HG' := Aside0.mk hg'
 clear hR hG hne hty hbs hlt hn hg'
 have hu1 := Try.underlying28
 have hu2 := Try.underlying59
 have hu3 := Try.underlying30
 have hu4 := Try.underlying30
 go_enter Try.func83, Try.ntmps83
 go_wp2_with (first
  | ((with_reducible refine gate_builtin (b := .append) (xs := #[.tmp 13, .tmp 18]) rfl ?_); at_builtin; refine Kd.R_append k59 (w0 := w) base rfl (.tmp 13) (.tmp 18) 28 59 (.agg #[.int .i64 0, .int .i64 0, .int .i64 0]) 24 rfl Try.underlying28 info_gate rfl (by decide) (by omega) _ g ⟨a1, a2, a3⟩ [.int .i64 a1, .int .i64 a2, .int .i64 a3] (fun _ => True) (fun _ => False) rfl (by first | (go_simp; done) | (go_simp; rfl)) ?aP (fun _ hk => hk.elim) ?aF ?aO ?aB ?aS ?aL ?_; (case aP => exact k59_mkM _ _ _ ⟨a1, a2, a3⟩); (case aF => exact fun _ _ => trivial); (case aO => (with_reducible repeat (first | apply Kd.R_alloc | apply Kd.R_drewN | apply Kd.R_drew)); exact HR.out); (case aB => repeat (first | (with_reducible first | exact Below.refl _ _ | apply below_alloc | apply pw_below_drewN | apply below_drew1))); (case aS => first | omega | (simp; omega)); (case aL => first | omega | (simp; omega)); intro v3 w3 hv hb3 hg_ ha_; obtain ⟨A3, c3, rfl⟩ := Kd.R_slice hv; have hG3 := (hg_.block G hGlt HNE.out).trans HG.out; have hd0 : w3.cell? ⟨G, 0, none⟩ = some (.int .i64 ins) := (blk_cell hG3 0).trans rfl; have hd1 : w3.cell? ⟨G, 1, none⟩ = some (.slice A0 g.length c0) := (blk_cell hG3 1).trans rfl; have hd2 : w3.cell? ⟨G, 2, none⟩ = some ov := (blk_cell hG3 2).trans rfl; have hd3 : w3.frozen? ⟨G, 1, none⟩ = false := blk_frozen hG3 1; have HV3 := Aside0.mk hv; have HG3 := Aside0.mk hG3; have HF3 := Aside0.mk (Fr.grown_own (tG := 59) (G := G) (base := base) hg_ (fun k e_ => ⟨HBS.out k e_, HTY.out k e_⟩)); clear hv hb3 hg_ ha_ hG3 hc0 hc1 hc2)
  | (go_at_call 49; go_in))
 go_ret
 refine ⟨congrArg (fun z => Ending.returned (.int .i64 z)) (by have := HN.out; omega), ?_, ?_⟩
 ·rw [HG'.out]
  refine ⟨.slice A3 (g.length + 1) c3, blk_alloc (by simpa using blk_set HG3.out 1 (.slice A3 (g.length + 1) c3)) _, ?_⟩
  have h5 := HV3.out
  rw [List.length_append, List.length_singleton] at h5
  exact Kd.R_alloc (Kd.R_set h5 HG3.out (by decide) 1 _) _
 ·exact (HF3.out.trans (Fr.setG (Fr.refl _ _ _ _) 1 _)).alloc _


-- HAND
/-! ### spec_l4Build_eq: function 68 -/
-- IMPORT Derived.StillTailTactics
set_option maxHeartbeats 16000000 in
set_option maxRecDepth 100000 in
/-- A comparison for equality that is put: its wire, and the circuit behind it. -/
theorem spec_l4Build_eq.calls (G base : Nat) (ins : Int) (ov : Value) (g : List S59) (A1 A2 : Option Addr) (c1 c2 : Nat) (a b : List Int) (w : World) (hb : base ≤ w.heap.size) (HBD : Bd 75 G base ins ov w g) (ha : (∀ W', Fr 59 G base w W' → Kd.C (Kd.int .i64) W' A1 a.length a)) (hb2 : (∀ W', Fr 59 G base w W' → Kd.C (Kd.int .i64) W' A2 b.length b)) (hi0 : 0 ≤ ins) (hi1 : ins ≤ 1000000) (hl : g.length ≤ 900000) (hal : a.length ≤ 10000) (hbl : b.length = a.length) :
  Calls Try.prog 68 #[.pointer (some ⟨G, 0, none⟩), .slice A1 a.length c1, .slice A2 b.length c2] w fun e w' => e = .returned (.int .i64 (eqN ins a b g a.length).2) ∧ Bd 75 G base ins ov w' (eqN ins a b g a.length).1 ∧ Fr 59 G base w w' := by
 have hGlt : G < w.heap.size := by obtain ⟨gv, hG, _⟩ := HBD; exact blk_lt hG
 have HBD0 := Aside0.mk HBD
 have Hha := Aside0.mk ha
 have Hhb2 := Aside0.mk hb2
 have HBL := Aside0.mk hbl
 clear HBD ha hb2 hbl
 have hu1 := Try.underlying23
 obtain ⟨g1, hg1⟩ : ∃ q, q = g ++ [(⟨1, 1, 0⟩ : S59)] := ⟨_, rfl⟩
 obtain ⟨d0, hd0⟩ : ∃ d, d = ins + (g.length : Int) := ⟨_, rfl⟩
 have hz : eqN ins a b g 0 = (g1, d0) := by rw [hg1, hd0]; rfl
 have G1 := Aside0.mk hg1
 have N0 := Aside0.mk hd0
 have HZ := Aside0.mk hz
 have L0 : g.length ≤ 1000000 := by omega
 have HF0 := Aside0.mk (Fr.refl 59 G base w)
 have tok1 : True := trivial
 clear hg1 hd0 hz
 go_enter Try.func68, Try.ntmps68
 go_wp2_with (go_at_call 80; have _t := tok1; refine (spec_l4Build_gate.calls G base ins ov g g1 1 1 0 d0 _ (Nat.le_trans hb HF0.out.size) HBD0.out hi0 hi1 L0 N0.out G1.out).mono ?_; rintro e w1 ⟨rfl, hbd, hf⟩; have B1 := Aside0.mk hbd; have F1 := Aside0.mk (HF0.out.trans hf); clear tok1 hbd hf)
 go_loopg [7, 15] a.length (fun gg so si wr => ∃ kk : Nat, kk ≤ a.length ∧ a.length - kk ≤ gg ∧ so = .int .i64 (eqN ins a b g kk).2 ∧ si = .int .i64 kk ∧ Aside0 (Bd 75 G base ins ov wr (eqN ins a b g kk).1) ∧ Aside0 (Fr 59 G base w wr))
 case atStart => exact ⟨0, Nat.zero_le _, by omega, by rw [HZ.out], rfl, by rw [HZ.out]; exact B1, F1⟩
 case round =>
  clear HBD0 HF0 B1 F1 G1 N0 HZ
  obtain ⟨kk, hkk, hg, rfl, rfl, HBD, HF⟩ := hrel
  have hlen := eqN_len ins a b g kk
  by_cases hlt : kk < a.length
  ·have hltz : (kk : Int) < (a.length : Int) := by omega
   have hs : eqN ins a b g (kk + 1) = ((eqN ins a b g kk).1 ++ [⟨5, rd a kk, rd b kk⟩] ++ [⟨2, (ins + ((eqN ins a b g kk).1.length : Int)), 0⟩] ++ [⟨3, (ins + ((eqN ins a b g kk).1.length : Int)) + 1, (eqN ins a b g kk).2⟩], (ins + ((eqN ins a b g kk).1.length : Int)) + 2) := rfl
   obtain ⟨gs, hgs⟩ : ∃ q, (eqN ins a b g kk).1 = q := ⟨_, rfl⟩
   obtain ⟨cs, hcs⟩ : ∃ q, (eqN ins a b g kk).2 = q := ⟨_, rfl⟩
   rw [hgs] at hlen
   rw [hgs, hcs] at hs
   rw [hgs] at HBD
   rw [hcs]
   clear hgs hcs
   have hgl : gs.length ≤ 970000 := by omega
   obtain ⟨d, hd⟩ : ∃ d, ins + (gs.length : Int) = d := ⟨_, rfl⟩
   rw [hd] at hs
   have hd0 : 0 ≤ d := by omega
   have hd1 : d ≤ 2000000 := by omega
   clear hlen
   obtain ⟨ad, e, hxa⟩ := Kd.at_int (Hha.out _ HF.out) (kk : Int) (by omega) hltz
   cases e
   rw [Int.toNat_natCast] at hxa
   have hltb : kk < b.length := by have := HBL.out; omega
   obtain ⟨ae, e, hya⟩ := Kd.at_int (Hhb2.out _ HF.out) (kk : Int) (by omega) (by omega)
   cases e
   rw [Int.toNat_natCast] at hya
   obtain ⟨x, hx⟩ : ∃ x, rd a kk = x := ⟨_, rfl⟩
   rw [hx] at hs hxa
   obtain ⟨y, hy⟩ : ∃ y, rd b kk = y := ⟨_, rfl⟩
   rw [hy] at hs hya
   have HX := Aside0.mk hx
   have HY := Aside0.mk hy
   clear hx hy L0
   obtain ⟨g1, hg1⟩ : ∃ q, q = gs ++ [(⟨5, x, y⟩ : S59)] := ⟨_, rfl⟩
   obtain ⟨g2, hg2⟩ : ∃ q, q = g1 ++ [(⟨2, d, 0⟩ : S59)] := ⟨_, rfl⟩
   obtain ⟨g3, hg3⟩ : ∃ q, q = g2 ++ [(⟨3, (d + 1), cs⟩ : S59)] := ⟨_, rfl⟩
   rw [← hg1, ← hg2, ← hg3] at hs
   have n1 : (g1.length : Int) = gs.length + 1 := by rw [hg1]; simp; try omega
   have n2 : (g2.length : Int) = gs.length + 2 := by rw [hg2]; simp; try omega
   have N0 := Aside0.mk (show d = ins + (gs.length : Int) by omega)
   have L0 : gs.length ≤ 1000000 := by omega
   have N1 := Aside0.mk (show (d + 1) = ins + (g1.length : Int) by omega)
   have L1 : g1.length ≤ 1000000 := by omega
   have N2 := Aside0.mk (show (d + 2) = ins + (g2.length : Int) by omega)
   have L2 : g2.length ≤ 1000000 := by omega
   have G1 := Aside0.mk hg1
   have tok1 : True := trivial
   have G2 := Aside0.mk hg2
   have tok2 : True := trivial
   have G3 := Aside0.mk hg3
   have tok3 : True := trivial
   have HS := Aside0.mk hs
   clear hs hd hg1 hg2 hg3 n1 n2
   clear hgl
   go_wp2
   go_still_tail 9, (by kernel_rfl)
   change wpList _ _ _ _ _ wr.drew
   have BD1 := Aside0.mk (HBD.out.drew)
   have FD1 := Aside0.mk (HF.out.drew)
   clear hxa hya
   generalize wr.drew = W1 at BD1 FD1 ⊢
   have hxa := Fr.cellAt FD1.out Hha.out hlt HX.out
   have hya := Fr.cellAt FD1.out Hhb2.out hltb HY.out
   go_wp2_with (first
     | (go_at_call 80; have _t := tok1; refine (spec_l4Build_gate.calls G base ins ov gs g1 5 x y d _ (Nat.le_trans hb FD1.out.size) BD1.out hi0 hi1 L0 N0.out G1.out).mono ?_; rintro e w1 ⟨rfl, hbd, hf⟩; have B1 := Aside0.mk hbd; have F1 := Aside0.mk (FD1.out.trans hf); clear tok1 hbd hf hxa hya; have hxa := Fr.cellAt F1.out Hha.out hlt HX.out; have hya := Fr.cellAt F1.out Hhb2.out hltb HY.out)
     | (go_at_call 80; have _t := tok2; refine (spec_l4Build_gate.calls G base ins ov g1 g2 2 d 0 (d + 1) _ (Nat.le_trans hb F1.out.size) B1.out hi0 hi1 L1 N1.out G2.out).mono ?_; rintro e w2 ⟨rfl, hbd, hf⟩; have B2 := Aside0.mk hbd; have F2 := Aside0.mk (F1.out.trans hf); clear tok2 hbd hf hxa hya; have hxa := Fr.cellAt F2.out Hha.out hlt HX.out; have hya := Fr.cellAt F2.out Hhb2.out hltb HY.out)
     | (go_at_call 80; have _t := tok3; refine (spec_l4Build_gate.calls G base ins ov g2 g3 3 (d + 1) cs (d + 2) _ (Nat.le_trans hb F2.out.size) B2.out hi0 hi1 L2 N2.out G3.out).mono ?_; rintro e w3 ⟨rfl, hbd, hf⟩; have B3 := Aside0.mk hbd; have F3 := Aside0.mk (F2.out.trans hf); clear tok3 hbd hf hxa hya; have hxa := Fr.cellAt F3.out Hha.out hlt HX.out; have hya := Fr.cellAt F3.out Hhb2.out hltb HY.out))
   go_roundg (a.length - (kk + 1))
   case measure => omega
   case rel => exact ⟨kk + 1, by omega, by omega, by rw [HS.out], by go_num, by rw [HS.out]; exact B3, F3⟩
  ·have hltz : ¬ (kk : Int) < (a.length : Int) := by omega
   obtain rfl : kk = a.length := by omega
   go_wp2
   go_ret
   exact ⟨rfl, HBD.out, HF.out⟩

end Go.Proofs.Ytimkjhdopncimaa.X
