/- Each Go function as a Lean function, with the proof that the call comes to just its answer; or a law's row out of its pure statement. Conditions: the arguments are of their kinds. Written by this session's program wip/xp/xp.sh. -/
import Derived.Test.YtckgeanmljmhfaaX0
import Derived.Test.YtckgeanmljmhfaaX1
import Derived.Test.YtckgeanmljmhfaaX3
import Derived.StillTailTactics
namespace Go.Proofs.Ytckgeanmljmhfaa.X
open Go.RowKit Go.Proofs.YtckgeanmljmhfaaW.PrintWords Go.Proofs.YtckgeanmljmhfaaW.PrintLast Go.Proofs.YtckgeanmljmhfaaW.PrintMore
attribute [local go_sem] max2_int min2_int max_two min_two max_three min_three max_four min_four   -- for this text's walks alone
set_option linter.unusedVariables false
set_option linter.unusedSimpArgs false

/-! ### spec_GoodTerm: function 60 -/
def spec_GoodTerm.f (k : Nat) (a0 : Int) (a1 : Int) (l2 : List (S63)) : Option (Bool) := (spec_l2Kind.f k a0 a1 l2).bind fun t125 => (some (decide (t125 > 0)))
theorem spec_GoodTerm.mono : ∀ a0 a1 a2 k, LeO (spec_GoodTerm.f k a0 a1 a2) (spec_GoodTerm.f (k + 1) a0 a1 a2) := by
 intro a0 a1 a2 k
 unfold spec_GoodTerm.f
 repeat' first
   | (with_reducible exact spec_l2Kind.mono _ _ _ _)
   | (with_reducible exact LeO.refl _)
   | (with_reducible exact LeO.none _)
   | (with_reducible refine LeO.ite ?_ ?_)
   | (with_reducible refine LeO.bind ?_ (fun _ => ?_))
   | exact spec_l2Kind.mono _ _ _ _
   | exact LeO.none _
   | refine LeO.ite ?_ ?_
   | refine LeO.bind ?_ (fun _ => ?_)
set_option maxHeartbeats 8000000 in
set_option maxRecDepth 100000 in
theorem spec_GoodTerm.calls (k : Nat) (a0 : Int) (a1 : Int) (A2 : Option Addr) (c2 : Nat) (l2 : List (S63)) (r : Bool) (w : World) (hr2 : Kd.C k63 w A2 l2.length l2) (hc2 : l2.length ≤ c2) (h : spec_GoodTerm.f k a0 a1 l2 = some r) :
 Calls Try.prog 60 #[.int .i64 a0, .int .i64 a1, .slice A2 l2.length c2] w fun e w' => e = .returned (.bool r) ∧ Below w.heap.size w w' := by
 have HR2 := Aside0.mk hr2
 have HC2 := Aside0.mk hc2
 clear hr2 hc2
 have HB := Aside0.mk (Below.refl w.heap.size w)
 have H : ((spec_l2Kind.f k a0 a1 l2).bind fun t125 => (some (decide (t125 > 0)))) = some r := h
 clear h
 replace H := Option.bind_eq_some_iff.mp H
 obtain ⟨t125, A40, H⟩ := H
 replace H : (some (decide (t125 > 0))) = some r := H
 have A4 := Aside0.mk A40
 clear A40
 obtain rfl := Option.some.inj H
 go_enter Try.func60, Try.ntmps60
 go_wp2_with (first | ((with_reducible refine gate_callee (f := 91) rfl ?_); refine goesL_ (some 10) rfl rfl Try.func91 (by kernel_rfl) rfl #[.int .i64 a0, .int .i64 a1, .slice A2 l2.length c2] rfl qG ?_; (with_reducible refine (spec_l2Kind.calls k a0 a1 _ _ l2 t125 _ ?side1 ?side2 A4.out).mono ?_); (case side1 => exact qC HR2.out); (case side2 => exact HC2.out); rintro e w5 ⟨rfl, hb⟩; refine ⟨_, rfl, ?_⟩; have n0_ := Aside0.mk (below_step (qB) hb); clear HB; have HB := n0_; clear n0_; (try clear hb); (try clear hb2); (try clear hk); (try clear hi)))
 go_ret
 exact ⟨qE, qB⟩

/-! ### spec_IsPlain: function 33 -/
def spec_IsPlain.l0 : Nat → List (S63) → Int → Int → Option (Bool × Bool)
 | 0, _, _, _ => none
 | k + 1, x15, x16, x17 => if x17 < x16 then (if 0 ≤ x17 then (if x17 < (x15.length : Int) then (if ((rd_T63 x15 x17).f0) = 6 then (some (false, true)) else (if ((rd_T63 x15 x17).f0) = 7 then (some (false, true)) else (if ((rd_T63 x15 x17).f0) = 11 then (some (false, true)) else (if ((rd_T63 x15 x17).f0) = 12 then (some (false, true)) else (spec_IsPlain.l0 k x15 x16 (wrap64 (x17 + 1))))))) else (none)) else (none)) else (some (true, true))
def spec_IsPlain.f (k : Nat) (a0 : Int) (a1 : Int) (l2 : List (S63)) : Option (Bool × Bool) := (spec_GoodTerm.f k a0 a1 l2).bind fun t126 => (if t126 = true then (spec_IsPlain.l0 k l2 (l2.length : Int) 0) else (some (false, false)))
theorem spec_IsPlain.mono_l : ∀ k, (∀ y0 y1 y2, LeO (spec_IsPlain.l0 k y0 y1 y2) (spec_IsPlain.l0 (k + 1) y0 y1 y2))
 | 0 => fun _ _ _ r h => by simp [spec_IsPlain.l0] at h
 | k + 1 => by
 have ih0 := spec_IsPlain.mono_l k
 ·intro y0 y1 y2
   unfold spec_IsPlain.l0
   repeat' first
   | (with_reducible exact ih0 _ _ _)
   | (with_reducible exact spec_GoodTerm.mono _ _ _ _)
   | (with_reducible exact LeO.refl _)
   | (with_reducible exact LeO.none _)
   | (with_reducible refine LeO.ite ?_ ?_)
   | (with_reducible refine LeO.bind ?_ (fun _ => ?_))
   | exact ih0 _ _ _
   | exact spec_GoodTerm.mono _ _ _ _
   | exact LeO.none _
   | refine LeO.ite ?_ ?_
   | refine LeO.bind ?_ (fun _ => ?_)
theorem spec_IsPlain.mono : ∀ a0 a1 a2 k, LeO (spec_IsPlain.f k a0 a1 a2) (spec_IsPlain.f (k + 1) a0 a1 a2) := by
 intro a0 a1 a2 k
 have ih0 := spec_IsPlain.mono_l k
 unfold spec_IsPlain.f
 repeat' first
   | (with_reducible exact ih0 _ _ _)
   | (with_reducible exact spec_GoodTerm.mono _ _ _ _)
   | (with_reducible exact LeO.refl _)
   | (with_reducible exact LeO.none _)
   | (with_reducible refine LeO.ite ?_ ?_)
   | (with_reducible refine LeO.bind ?_ (fun _ => ?_))
   | exact ih0 _ _ _
   | exact spec_GoodTerm.mono _ _ _ _
   | exact LeO.none _
   | refine LeO.ite ?_ ?_
   | refine LeO.bind ?_ (fun _ => ?_)
set_option maxHeartbeats 8000000 in
set_option maxRecDepth 100000 in
theorem spec_IsPlain.calls (k : Nat) (a0 : Int) (a1 : Int) (A2 : Option Addr) (c2 : Nat) (l2 : List (S63)) (r1 : Bool) (r2 : Bool) (w : World) (hr2 : Kd.C k63 w A2 l2.length l2) (hc2 : l2.length ≤ c2) (h : spec_IsPlain.f k a0 a1 l2 = some (r1, r2)) :
 Calls Try.prog 33 #[.int .i64 a0, .int .i64 a1, .slice A2 l2.length c2] w fun e w' => e = .returned (.tuple #[.bool r1, .bool r2]) ∧ Below w.heap.size w w' := by
 have hu63 := Try.underlying63
 have HR2 := Aside0.mk hr2
 have HC2 := Aside0.mk hc2
 clear hr2 hc2
 have HB := Aside0.mk (Below.refl w.heap.size w)
 have H : ((spec_GoodTerm.f k a0 a1 l2).bind fun t126 => (if t126 = true then (spec_IsPlain.l0 k l2 (l2.length : Int) 0) else (some (false, false)))) = some (r1, r2) := h
 clear h
 replace H := Option.bind_eq_some_iff.mp H
 obtain ⟨t126, A40, H⟩ := H
 replace H : (if t126 = true then (spec_IsPlain.l0 k l2 (l2.length : Int) 0) else (some (false, false))) = some (r1, r2) := H
 have A4 := Aside0.mk A40
 clear A40
 by_cases c5 : t126 = true
 ·subst c5
 have H1 : (spec_IsPlain.l0 k l2 (l2.length : Int) 0) = some (r1, r2) := by rw [if_pos rfl] at H; exact H
 clear H
 have H := H1
 clear H1
 have H' := Aside0.mk H
 clear H
 go_enter Try.func33, Try.ntmps33
 go_wp2_with (first | ((with_reducible refine gate_callee (f := 60) rfl ?_); refine goesL_ (some 13) rfl rfl Try.func60 (by kernel_rfl) rfl #[.int .i64 a0, .int .i64 a1, .slice A2 l2.length c2] rfl qG ?_; (with_reducible refine (spec_GoodTerm.calls k a0 a1 _ _ l2 true _ ?side1 ?side2 A4.out).mono ?_); (case side1 => exact qC HR2.out); (case side2 => exact HC2.out); rintro e w6 ⟨rfl, hb⟩; refine ⟨_, rfl, ?_⟩; have n0_ := Aside0.mk (below_step (qB) hb); clear HB; have HB := n0_; clear n0_; (try clear hb); (try clear hb2); (try clear hk); (try clear hi)))
 go_loopg [17] k (fun kq v17 w' => ∃ (x17_1 : Int), v17 = .int .i64 x17_1 ∧ Aside0 (spec_IsPlain.l0 kq l2 (l2.length : Int) x17_1 = some (r1, r2)) ∧ Aside0 (kq ≤ k) ∧ Aside0 (Below w.heap.size w w'))
 case atStart => exact ⟨(0), qS, H', ⟨Nat.le_refl _⟩, ⟨qB⟩⟩
 case round =>
   clear H'
   try clear c2
   try clear p2
   try clear c3
   try clear c5
   try clear c6
   obtain ⟨x17_1, rfl, HA, HK1, HB⟩ := hrel
   cases gk with
   | zero => exact absurd HA.out (by simp [spec_IsPlain.l0])
   | succ k1 =>
  have H := HA.out
  clear HA
  simp only [spec_IsPlain.l0] at H
  by_cases c7 : x17_1 < (l2.length : Int)
  ·rw [if_pos c7] at H
     have c7b0 : decide (x17_1 < (l2.length : Int)) = true := decide_eq_true c7
     clear c7
     by_cases c8 : 0 ≤ x17_1
     ·rw [if_pos c8] at H
   have c8b0 : decide (0 ≤ x17_1) = true := decide_eq_true c8
   clear c8
   by_cases c9 : x17_1 < (l2.length : Int)
   ·rw [if_pos c9] at H
       have c9b0 : decide (x17_1 < (l2.length : Int)) = true := decide_eq_true c9
       clear c9
       by_cases c10 : ((rd_T63 l2 x17_1).f0) = 6
       ·rw [if_pos c10] at H
    have c10b0 : (((rd_T63 l2 x17_1).f0) == 6) = true := beq_iff_eq.mpr c10
    have c10b1 : (((rd_T63 l2 x17_1).f0) != 6) = false := bne_eq_false_iff_eq.mpr c10
    clear c10
    simp only [Option.some.injEq, Prod.mk.injEq] at H
    obtain ⟨rfl, rfl⟩ := H
    have p127 : 0 ≤ (x17_1 : Int) := qD
    have q127 : x17_1 < (l2.length : Int) := qD
    obtain ⟨ad127, e127, hx127_0, hx127_1⟩ := at_T63 HR2.out x17_1 p127 q127
    cases e127
    replace hx127_0 := (HB.out.cell (World.block_lt_of_cell? w _ hx127_0)).trans hx127_0
    replace hx127_1 := (HB.out.cell (World.block_lt_of_cell? w _ hx127_1)).trans hx127_1
    replace p127 := eq_true p127
    replace q127 := eq_true q127
    go_wp2_with (first | ((with_reducible refine gate_dst (N := 9) rfl ?_); refine box_event ?hg (N := 9) ?hd (cs := #[.int .i64 0, .int .u64 0]) (t := 63) ?hr ?_; (case hd => rfl); (case hg => rfl); (case hr => first | (go_simp; done) | (go_simp; rfl)); intro gb128 hg w11 hbox hb; have n0_ := Aside0.mk (below_step (qB) hb); have n1_ := Aside0.mk (hbox); have n2_ := Aside0.mk ((by rw [hg]; exact (below_size (qB)) : w.heap.size ≤ gb128)); have n3_ := Aside0.mk ((by rw [hg]; exact (below_size (qB)) : w.heap.size ≤ gb128)); clear HB; have HB := n0_; have BK128 := n1_; have GW128 := n2_; have GE128 := n3_; clear n0_ n1_ n2_ n3_; clear hb hbox hg; have hcz12_0 : w11.cell? ⟨gb128, 0, none⟩ = some (.int .i64 0) := (blk_cell BK128.out 0).trans rfl; have hcz12_1 : w11.cell? ⟨gb128, 1, none⟩ = some (.int .u64 0) := (blk_cell BK128.out 1).trans rfl; have hfz12_0 := blk_frozen BK128.out 0; have hfz12_1 := blk_frozen BK128.out 1))
    go_ret2
    exact ⟨qE, qB⟩
       ·rw [if_neg c10] at H
    have c10b0 : (((rd_T63 l2 x17_1).f0) == 6) = false := beq_eq_false_iff_ne.mpr c10
    have c10b1 : (((rd_T63 l2 x17_1).f0) != 6) = true := bne_iff_ne.mpr c10
    by_cases c13 : ((rd_T63 l2 x17_1).f0) = 7
    ·rw [if_pos c13] at H
         have c13b0 : (((rd_T63 l2 x17_1).f0) == 7) = true := beq_iff_eq.mpr c13
         have c13b1 : (((rd_T63 l2 x17_1).f0) != 7) = false := bne_eq_false_iff_eq.mpr c13
         clear c13
         simp only [Option.some.injEq, Prod.mk.injEq] at H
         obtain ⟨rfl, rfl⟩ := H
         have p127 : 0 ≤ (x17_1 : Int) := qD
         have q127 : x17_1 < (l2.length : Int) := qD
         obtain ⟨ad127, e127, hx127_0, hx127_1⟩ := at_T63 HR2.out x17_1 p127 q127
         cases e127
         replace hx127_0 := (HB.out.cell (World.block_lt_of_cell? w _ hx127_0)).trans hx127_0
         replace hx127_1 := (HB.out.cell (World.block_lt_of_cell? w _ hx127_1)).trans hx127_1
         replace p127 := eq_true p127
         replace q127 := eq_true q127
         go_wp2_with (first | ((with_reducible refine gate_dst (N := 9) rfl ?_); refine box_event ?hg (N := 9) ?hd (cs := #[.int .i64 0, .int .u64 0]) (t := 63) ?hr ?_; (case hd => rfl); (case hg => rfl); (case hr => first | (go_simp; done) | (go_simp; rfl)); intro gb128 hg w14 hbox hb; have n0_ := Aside0.mk (below_step (qB) hb); have n1_ := Aside0.mk (hbox); have n2_ := Aside0.mk ((by rw [hg]; exact (below_size (qB)) : w.heap.size ≤ gb128)); have n3_ := Aside0.mk ((by rw [hg]; exact (below_size (qB)) : w.heap.size ≤ gb128)); clear HB; have HB := n0_; have BK128 := n1_; have GW128 := n2_; have GE128 := n3_; clear n0_ n1_ n2_ n3_; clear hb hbox hg; have hcz15_0 : w14.cell? ⟨gb128, 0, none⟩ = some (.int .i64 0) := (blk_cell BK128.out 0).trans rfl; have hcz15_1 : w14.cell? ⟨gb128, 1, none⟩ = some (.int .u64 0) := (blk_cell BK128.out 1).trans rfl; have hfz15_0 := blk_frozen BK128.out 0; have hfz15_1 := blk_frozen BK128.out 1))
         go_ret2
         exact ⟨qE, qB⟩
    ·rw [if_neg c13] at H
         have c13b0 : (((rd_T63 l2 x17_1).f0) == 7) = false := beq_eq_false_iff_ne.mpr c13
         have c13b1 : (((rd_T63 l2 x17_1).f0) != 7) = true := bne_iff_ne.mpr c13
         by_cases c16 : ((rd_T63 l2 x17_1).f0) = 11
         ·rw [if_pos c16] at H
     have c16b0 : (((rd_T63 l2 x17_1).f0) == 11) = true := beq_iff_eq.mpr c16
     have c16b1 : (((rd_T63 l2 x17_1).f0) != 11) = false := bne_eq_false_iff_eq.mpr c16
     clear c16
     simp only [Option.some.injEq, Prod.mk.injEq] at H
     obtain ⟨rfl, rfl⟩ := H
     have p127 : 0 ≤ (x17_1 : Int) := qD
     have q127 : x17_1 < (l2.length : Int) := qD
     obtain ⟨ad127, e127, hx127_0, hx127_1⟩ := at_T63 HR2.out x17_1 p127 q127
     cases e127
     replace hx127_0 := (HB.out.cell (World.block_lt_of_cell? w _ hx127_0)).trans hx127_0
     replace hx127_1 := (HB.out.cell (World.block_lt_of_cell? w _ hx127_1)).trans hx127_1
     replace p127 := eq_true p127
     replace q127 := eq_true q127
     go_wp2_with (first | ((with_reducible refine gate_dst (N := 9) rfl ?_); refine box_event ?hg (N := 9) ?hd (cs := #[.int .i64 0, .int .u64 0]) (t := 63) ?hr ?_; (case hd => rfl); (case hg => rfl); (case hr => first | (go_simp; done) | (go_simp; rfl)); intro gb128 hg w17 hbox hb; have n0_ := Aside0.mk (below_step (qB) hb); have n1_ := Aside0.mk (hbox); have n2_ := Aside0.mk ((by rw [hg]; exact (below_size (qB)) : w.heap.size ≤ gb128)); have n3_ := Aside0.mk ((by rw [hg]; exact (below_size (qB)) : w.heap.size ≤ gb128)); clear HB; have HB := n0_; have BK128 := n1_; have GW128 := n2_; have GE128 := n3_; clear n0_ n1_ n2_ n3_; clear hb hbox hg; have hcz18_0 : w17.cell? ⟨gb128, 0, none⟩ = some (.int .i64 0) := (blk_cell BK128.out 0).trans rfl; have hcz18_1 : w17.cell? ⟨gb128, 1, none⟩ = some (.int .u64 0) := (blk_cell BK128.out 1).trans rfl; have hfz18_0 := blk_frozen BK128.out 0; have hfz18_1 := blk_frozen BK128.out 1))
     go_ret2
     exact ⟨qE, qB⟩
         ·rw [if_neg c16] at H
     have c16b0 : (((rd_T63 l2 x17_1).f0) == 11) = false := beq_eq_false_iff_ne.mpr c16
     have c16b1 : (((rd_T63 l2 x17_1).f0) != 11) = true := bne_iff_ne.mpr c16
     by_cases c19 : ((rd_T63 l2 x17_1).f0) = 12
     ·rw [if_pos c19] at H
           have c19b0 : (((rd_T63 l2 x17_1).f0) == 12) = true := beq_iff_eq.mpr c19
           have c19b1 : (((rd_T63 l2 x17_1).f0) != 12) = false := bne_eq_false_iff_eq.mpr c19
           clear c19
           simp only [Option.some.injEq, Prod.mk.injEq] at H
           obtain ⟨rfl, rfl⟩ := H
           have p127 : 0 ≤ (x17_1 : Int) := qD
           have q127 : x17_1 < (l2.length : Int) := qD
           obtain ⟨ad127, e127, hx127_0, hx127_1⟩ := at_T63 HR2.out x17_1 p127 q127
           cases e127
           replace hx127_0 := (HB.out.cell (World.block_lt_of_cell? w _ hx127_0)).trans hx127_0
           replace hx127_1 := (HB.out.cell (World.block_lt_of_cell? w _ hx127_1)).trans hx127_1
           replace p127 := eq_true p127
           replace q127 := eq_true q127
           go_wp2_with (first | ((with_reducible refine gate_dst (N := 9) rfl ?_); refine box_event ?hg (N := 9) ?hd (cs := #[.int .i64 0, .int .u64 0]) (t := 63) ?hr ?_; (case hd => rfl); (case hg => rfl); (case hr => first | (go_simp; done) | (go_simp; rfl)); intro gb128 hg w20 hbox hb; have n0_ := Aside0.mk (below_step (qB) hb); have n1_ := Aside0.mk (hbox); have n2_ := Aside0.mk ((by rw [hg]; exact (below_size (qB)) : w.heap.size ≤ gb128)); have n3_ := Aside0.mk ((by rw [hg]; exact (below_size (qB)) : w.heap.size ≤ gb128)); clear HB; have HB := n0_; have BK128 := n1_; have GW128 := n2_; have GE128 := n3_; clear n0_ n1_ n2_ n3_; clear hb hbox hg; have hcz21_0 : w20.cell? ⟨gb128, 0, none⟩ = some (.int .i64 0) := (blk_cell BK128.out 0).trans rfl; have hcz21_1 : w20.cell? ⟨gb128, 1, none⟩ = some (.int .u64 0) := (blk_cell BK128.out 1).trans rfl; have hfz21_0 := blk_frozen BK128.out 0; have hfz21_1 := blk_frozen BK128.out 1))
           go_ret2
           exact ⟨qE, qB⟩
     ·rw [if_neg c19] at H
           have c19b0 : (((rd_T63 l2 x17_1).f0) == 12) = false := beq_eq_false_iff_ne.mpr c19
           have c19b1 : (((rd_T63 l2 x17_1).f0) != 12) = true := bne_iff_ne.mpr c19
           have H' := Aside0.mk H
           clear H
           have p127 : 0 ≤ (x17_1 : Int) := qD
           have q127 : x17_1 < (l2.length : Int) := qD
           obtain ⟨ad127, e127, hx127_0, hx127_1⟩ := at_T63 HR2.out x17_1 p127 q127
           cases e127
           replace hx127_0 := (HB.out.cell (World.block_lt_of_cell? w _ hx127_0)).trans hx127_0
           replace hx127_1 := (HB.out.cell (World.block_lt_of_cell? w _ hx127_1)).trans hx127_1
           replace p127 := eq_true p127
           replace q127 := eq_true q127
           go_wp2_with (first | ((with_reducible refine gate_dst (N := 9) rfl ?_); refine box_event ?hg (N := 9) ?hd (cs := #[.int .i64 0, .int .u64 0]) (t := 63) ?hr ?_; (case hd => rfl); (case hg => rfl); (case hr => first | (go_simp; done) | (go_simp; rfl)); intro gb128 hg w22 hbox hb; have n0_ := Aside0.mk (below_step (qB) hb); have n1_ := Aside0.mk (hbox); have n2_ := Aside0.mk ((by rw [hg]; exact (below_size (qB)) : w.heap.size ≤ gb128)); have n3_ := Aside0.mk ((by rw [hg]; exact (below_size (qB)) : w.heap.size ≤ gb128)); clear HB; have HB := n0_; have BK128 := n1_; have GW128 := n2_; have GE128 := n3_; clear n0_ n1_ n2_ n3_; clear hb hbox hg; have hcz23_0 : w22.cell? ⟨gb128, 0, none⟩ = some (.int .i64 0) := (blk_cell BK128.out 0).trans rfl; have hcz23_1 : w22.cell? ⟨gb128, 1, none⟩ = some (.int .u64 0) := (blk_cell BK128.out 1).trans rfl; have hfz23_0 := blk_frozen BK128.out 0; have hfz23_1 := blk_frozen BK128.out 1))
           go_roundg k1
           case measure => have := HK1.out; omega
           case rel => exact ⟨(wrap64 (x17_1 + 1)), qS, H', ⟨by have := HK1.out; omega⟩, ⟨qB⟩⟩
   ·rw [if_neg c9] at H
       exact absurd H (by simp)
     ·rw [if_neg c8] at H
   exact absurd H (by simp)
  ·rw [if_neg c7] at H
     have c7b0 : decide (x17_1 < (l2.length : Int)) = false := decide_eq_false c7
     clear c7
     simp only [Option.some.injEq, Prod.mk.injEq] at H
     obtain ⟨rfl, rfl⟩ := H
     go_wp2
     go_ret2
     exact ⟨qE, qB⟩
 ·replace c5 := Bool.eq_false_iff.mpr c5
 subst c5
 have H1 : (some (false, false)) = some (r1, r2) := by rw [if_neg (show ¬ (false = true) by decide)] at H; exact H
 clear H
 have H := H1
 clear H1
 simp only [Option.some.injEq, Prod.mk.injEq] at H
 obtain ⟨rfl, rfl⟩ := H
 go_enter Try.func33, Try.ntmps33
 go_wp2_with (first | ((with_reducible refine gate_callee (f := 60) rfl ?_); refine goesL_ (some 13) rfl rfl Try.func60 (by kernel_rfl) rfl #[.int .i64 a0, .int .i64 a1, .slice A2 l2.length c2] rfl qG ?_; (with_reducible refine (spec_GoodTerm.calls k a0 a1 _ _ l2 false _ ?side1 ?side2 A4.out).mono ?_); (case side1 => exact qC HR2.out); (case side2 => exact HC2.out); rintro e w24 ⟨rfl, hb⟩; refine ⟨_, rfl, ?_⟩; have n0_ := Aside0.mk (below_step (qB) hb); clear HB; have HB := n0_; clear n0_; (try clear hb); (try clear hb2); (try clear hk); (try clear hi)))
 go_ret2
 exact ⟨qE, qB⟩

/-! ### spec_l5Wide: function 34 -/
def spec_l5Wide.f (a0 : Int) : Option (Bool) := (spec_l1In.f a0 1 4).bind fun t129 => (some t129)
set_option maxHeartbeats 8000000 in
set_option maxRecDepth 100000 in
theorem spec_l5Wide.calls (a0 : Int) (r : Bool) (w : World) (h : spec_l5Wide.f a0 = some r) :
 Calls Try.prog 34 #[.int .i64 a0] w fun e w' => e = .returned (.bool r) ∧ Drawn0 w w' := by
 have H : ((spec_l1In.f a0 1 4).bind fun t129 => (some t129)) = some r := h
 clear h
 replace H := Option.bind_eq_some_iff.mp H
 obtain ⟨t129, A20, H⟩ := H
 replace H : (some t129) = some r := H
 have A2 := Aside0.mk A20
 clear A20
 obtain rfl := Option.some.inj H
 go_enter Try.func34, Try.ntmps34
 go_wp2_with (first | ((with_reducible refine gate_callee (f := 56) rfl ?_); refine goesL_ (some 4) rfl rfl Try.func56 (by kernel_rfl) rfl #[.int .i64 a0, .int .i64 1, .int .i64 4] rfl qG ?_; (with_reducible refine (spec_l1In.calls a0 1 4 t129 _ A2.out).mono ?_); rintro e w' ⟨rfl, ⟨nd, rfl⟩⟩; refine ⟨_, rfl, ?_⟩))
 go_ret
 exact ⟨by first | rfl | (simp; done) | (simp [*]; done), by repeat (first | exact Drawn0.refl _ | apply Drawn0.step)⟩

/-! ### spec_l4Wires: function 67 -/
def spec_l4Wires.f (a0_0 : Int) (l0_1 : List (S93)) (l0_2 : List Int) : Option (Int) := some (wrap64 (a0_0 + (l0_1.length : Int)))
set_option maxHeartbeats 8000000 in
set_option maxRecDepth 100000 in
theorem spec_l4Wires.calls (a0_0 : Int) (A0_1 : Option Addr) (c0_1 : Nat) (l0_1 : List (S93)) (A0_2 : Option Addr) (c0_2 : Nat) (l0_2 : List Int) (r : Int) (w : World) (hr0_1 : Kd.C k93 w A0_1 l0_1.length l0_1) (hc0_1 : l0_1.length ≤ c0_1) (hr0_2 : Kd.C (Kd.int .i64) w A0_2 l0_2.length l0_2) (hc0_2 : l0_2.length ≤ c0_2) (h : spec_l4Wires.f a0_0 l0_1 l0_2 = some r) :
 Calls Try.prog 67 #[.agg #[.int .i64 a0_0, .slice A0_1 l0_1.length c0_1, .slice A0_2 l0_2.length c0_2]] w fun e w' => e = .returned (.int .i64 r) ∧ Below w.heap.size w w' := by
 have hu27 := Try.underlying27
 have HR0_1 := Aside0.mk hr0_1
 have HC0_1 := Aside0.mk hc0_1
 clear hr0_1 hc0_1
 have HR0_2 := Aside0.mk hr0_2
 have HC0_2 := Aside0.mk hc0_2
 clear hr0_2 hc0_2
 have HB := Aside0.mk (Below.refl w.heap.size w)
 have H : (some (wrap64 (a0_0 + (l0_1.length : Int)))) = some r := h
 clear h
 obtain rfl := Option.some.inj H
 go_enter Try.func67, Try.ntmps67
 go_wp2_with (first | ((with_reducible refine gate_dst (N := 1) rfl ?_); refine box_event ?hg (N := 1) ?hd (cs := #[.int .i64 a0_0, .slice A0_1 l0_1.length c0_1, .slice A0_2 l0_2.length c0_2]) (t := 27) ?hr ?_; (case hd => rfl); (case hg => rfl); (case hr => first | (go_simp; done) | (go_simp; rfl)); intro gb130 hg w2 hbox hb; have n0_ := Aside0.mk (below_step (qB) hb); have n1_ := Aside0.mk (hbox); have n2_ := Aside0.mk ((by rw [hg]; exact (below_size (qB)) : w.heap.size ≤ gb130)); have n3_ := Aside0.mk ((by rw [hg]; exact (below_size (qB)) : w.heap.size ≤ gb130)); clear HB; have HB := n0_; have BK130 := n1_; have GW130 := n2_; have GE130 := n3_; clear n0_ n1_ n2_ n3_; clear hb hbox hg; have hcz3_0 : w2.cell? ⟨gb130, 0, none⟩ = some (.int .i64 a0_0) := (blk_cell BK130.out 0).trans rfl; have hcz3_1 : w2.cell? ⟨gb130, 1, none⟩ = some (.slice A0_1 l0_1.length c0_1) := (blk_cell BK130.out 1).trans rfl; have hcz3_2 : w2.cell? ⟨gb130, 2, none⟩ = some (.slice A0_2 l0_2.length c0_2) := (blk_cell BK130.out 2).trans rfl; have hfz3_0 := blk_frozen BK130.out 0; have hfz3_1 := blk_frozen BK130.out 1; have hfz3_2 := blk_frozen BK130.out 2))
 go_ret
 exact ⟨qE, qB⟩


-- HAND
/-! ### bd_shared.lean -/
-- IMPORT Derived.StillTailTactics
/-- What the calls of a circuit that grows leave: all but the circuit's own cells (G) and rows of gates that lie at base or behind it. -/
structure Fr (tG G base : Nat) (w w' : World) : Prop where
 os : w'.os = w.os
 tape : w'.tape = w.tape
 output : w'.output = w.output
 size : w.heap.size ≤ w'.heap.size
 block : ∀ k, k < w.heap.size → k ≠ G → (base ≤ k → ∀ c, w.heap[k]? ≠ some (.cells c tG (0, 0))) → w'.heap[k]? = w.heap[k]?
section
variable {tC tG tI G base B : Nat} {w w1 w2 w' W : World}
theorem Fr.refl (tG G base : Nat) (w : World) : Fr tG G base w w := ⟨rfl, rfl, rfl, Nat.le_refl _, fun _ _ _ _ => rfl⟩
theorem Fr.trans (h : Fr tG G base w w1) (h2 : Fr tG G base w1 w2) : Fr tG G base w w2 :=
 ⟨h2.os.trans h.os, h2.tape.trans h.tape, h2.output.trans h.output, Nat.le_trans h.size h2.size, fun k hk hG ht => by
 have e := h.block k hk hG ht
 exact (h2.block k (Nat.lt_of_lt_of_le hk h.size) hG (fun hb c => by rw [e]; exact ht hb c)).trans e⟩
theorem Fr.of_below (h : Below w.heap.size w w1) : Fr tG G base w w1 := ⟨h.os, h.tape, h.output, h.size, fun k hk _ _ => h.block k hk⟩
theorem Fr.step_below (h : Fr tG G base w w1) (h2 : Below w1.heap.size w1 w2) : Fr tG G base w w2 := h.trans (Fr.of_below h2)
theorem Fr.alloc (h : Fr tG G base w w1) (o : Obj) : Fr tG G base w (w1.alloc o) := h.step_below (below_alloc (Below.refl _ _) o)
theorem Fr.drewN (h : Fr tG G base w w1) (n : Nat) : Fr tG G base w (w1.drewN n) := h.step_below (pw_below_drewN (Below.refl _ _) n)
theorem Fr.drew (h : Fr tG G base w w1) : Fr tG G base w w1.drew := h.step_below (below_drew (Below.refl _ _))
theorem Fr.below (h : Fr tG G base w w1) (hG : B ≤ G) (hb : B ≤ base) (hB : B ≤ w.heap.size) : Below B w w1 :=
 ⟨h.os, h.tape, h.output, h.size, fun k hk => h.block k (by omega) (by omega) (fun h2 => absurd h2 (by omega))⟩
/-- An append to a row of gates of one's own. -/
theorem Fr.grown_own {row : Option Nat} (hg : W.grownBy w1 row) (hr : ∀ k, row = some k → base ≤ k ∧ ∃ c, W.heap[k]? = some (.cells c tG (0, 0))) : Fr tG G base W w1 :=
 ⟨hg.os, hg.tape, hg.output, hg.size, fun k hk _ ht => hg.block k hk (fun he => by
 obtain ⟨hb, c, hc⟩ := hr k he.symm
 exact ht hb c hc)⟩
/-- An append to a row that is new since. -/
theorem Fr.grown_new {row : Option Nat} (h : Fr tG G base w W) (hg : W.grownBy w1 row) (hr : ∀ k, row = some k → w.heap.size ≤ k) : Fr tG G base w w1 :=
 ⟨hg.os.trans h.os, hg.tape.trans h.tape, hg.output.trans h.output, Nat.le_trans h.size hg.size, fun k hk hG ht =>
 (hg.block k (Nat.lt_of_lt_of_le hk h.size) (fun he => by have := hr k he.symm; omega)).trans (h.block k hk hG ht)⟩
theorem Fr.setG (h : Fr tG G base w W) (j : Nat) (v : Value) : Fr tG G base w (W.setCell ⟨G, j, none⟩ v) :=
 h.trans ⟨rfl, rfl, rfl, by simp [World.setCell], fun k _ hG _ => Below.heap_setCell W ⟨G, j, none⟩ v k hG⟩
theorem Fr.blk (h : Fr tG G base w w1) {k : Nat} {c : Array Value} {t : Nat} (hk : w.heap[k]? = some (.cells c t (0, 0))) (hG : k ≠ G) (ht : t ≠ tG) : w1.heap[k]? = some (.cells c t (0, 0)) :=
 (h.block k (blk_lt hk) hG (fun _ c' h' => by
 rw [hk] at h'
 injection h' with h'
 injection h' with _ h'
 exact ht h')).trans hk
section
variable {α : Type} {d : Kd α} {e e' b n c : Nat} {ok : Nat → Prop} {v u : Value} {A : Option Addr} {xs : List α}
/-- A row of other elements than gates stays. -/
theorem Fr.R (h : Fr tG G base w w1) (ho : d.R e w b ok v xs) (ht : ∀ q, q ∈ e :: d.E → q ≠ tG) (hG : ∀ k, ok k → k ≠ G) : d.R e w1 b ok v xs := by
 refine Kd.R_mono (Kd.R_move (Kd.R_bound ho) (fun k hk => ?_)) (fun _ hk => hk.1)
 obtain ⟨hok, _, hlt, q, hq, cells, hc⟩ := hk
 exact h.block k hlt (hG k hok) (fun _ c' h' => by
 rw [hc] at h'
 injection h' with h'
 injection h' with _ h'
 exact ht q hq h')
/-- A row of one's own is read on. -/
theorem Fr.C_own (ho : d.R e w b ok (.slice A n c) xs) (ht : ∀ q, q ∈ e :: d.E → q ≠ tG) (hG : ∀ k, ok k → k ≠ G) : ∀ W', Fr tG G base w W' → d.C W' A xs.length xs := fun W' hk =>
 (Kd.R_reads' (hk.R ho ht hG)).2.2
theorem Fr.C_step (h : ∀ W', Fr tG G base w W' → d.C W' A n xs) (hk : Fr tG G base w w1) : ∀ W', Fr tG G base w1 W' → d.C W' A n xs := fun W' hk' => h W' (hk.trans hk')
end
end
/-- A circuit that grows: its cells lie at G, its gates are the call's own. -/
def Bd (tC G base : Nat) (ins : Int) (ov : Value) (w : World) (g : List S93) : Prop :=
 ∃ gv, w.heap[G]? = some (.cells #[.int .i64 ins, gv, ov] tC (0, 0)) ∧ Kd.R k93 93 w base (fun _ => True) gv g
section
variable {tC t G base : Nat} {ins : Int} {ov : Value} {w w1 W : World} {g : List S93}
theorem Bd.below (h : Bd tC G base ins ov w g) (hb : Below w.heap.size w w1) : Bd tC G base ins ov w1 g := by
 obtain ⟨gv, hG, hR⟩ := h
 exact ⟨gv, (hb.block _ (blk_lt hG)).trans hG, Kd.R_below hR hb⟩
theorem Bd.alloc (h : Bd tC G base ins ov w g) (o : Obj) : Bd tC G base ins ov (w.alloc o) g := h.below (below_alloc (Below.refl _ _) o)
theorem Bd.drewN (h : Bd tC G base ins ov w g) (n : Nat) : Bd tC G base ins ov (w.drewN n) g := h.below (pw_below_drewN (Below.refl _ _) n)
theorem Bd.drew (h : Bd tC G base ins ov w g) : Bd tC G base ins ov w.drew g := h.below (below_drew (Below.refl _ _))
theorem Bd.gates_other (h : Kd.R k93 93 w base (fun _ => True) ov g) (hm : ∀ k c, k < w.heap.size → w.heap[k]? = some (.cells c 93 (0, 0)) → w1.heap[k]? = w.heap[k]?) : Kd.R k93 93 w1 base (fun _ => True) ov g := by
 refine Kd.R_mono (Kd.R_move (Kd.R_bound h) (fun k hk => ?_)) (fun _ _ => trivial)
 obtain ⟨_, _, hlt, q, hq, cells, hc⟩ := hk
 have hq' : q = 93 := by
 rcases List.mem_cons.mp hq with rfl | hq
 ·rfl
 ·exact absurd hq (by simp [k93, Kd.iso, Kd.pair, Kd.int, Kd.scalar])
 subst hq'
 exact hm k cells hlt hc
/-- Behind an append to a row of other elements. -/
theorem Bd.grown (h : Bd tC G base ins ov W g) {row : Option Nat} (hg : W.grownBy w1 row) (hr : ∀ k, row = some k → ∃ c, W.heap[k]? = some (.cells c t (0, 0))) (hC : t ≠ tC) (ht : t ≠ 93) : Bd tC G base ins ov w1 g := by
 obtain ⟨gv, hG, hR⟩ := h
 refine ⟨gv, (hg.block _ (blk_lt hG) (fun he => ?_)).trans hG, Bd.gates_other hR (fun k c hk hc => hg.block k hk (fun he => ?_))⟩
 ·obtain ⟨c, hc⟩ := hr _ he.symm
 rw [hG] at hc
 injection hc with hc
 injection hc with _ hc
 exact hC hc.symm
 ·obtain ⟨c', hc'⟩ := hr _ he.symm
 rw [hc] at hc'
 injection hc' with hc'
 injection hc' with _ hc'
 exact ht hc'.symm
/-- Behind a store into a row of other elements. -/
theorem Bd.set (h : Bd tC G base ins ov W g) {a j : Nat} {c : Array Value} (ha : W.heap[a]? = some (.cells c t (0, 0))) (u : Value) (hC : t ≠ tC) (ht : t ≠ 93) : Bd tC G base ins ov (W.setCell ⟨a, j, none⟩ u) g := by
 obtain ⟨gv, hG, hR⟩ := h
 have hne : ∀ k c' t', W.heap[k]? = some (.cells c' t' (0, 0)) → t ≠ t' → k ≠ a := by
 rintro k c' t' hk hn rfl
 rw [ha] at hk
 injection hk with hk
 injection hk with _ hk
 exact hn hk
 exact ⟨gv, (Below.heap_setCell W ⟨a, j, none⟩ u G (hne _ _ _ hG hC)).trans hG, Bd.gates_other hR (fun k c' _ hc => Below.heap_setCell W ⟨a, j, none⟩ u k (hne _ _ _ hc ht))⟩
end
theorem info_gate : (Try.prog.info? 93).map (fun i => (i.zero, i.size, i.bytes)) = some (some (.agg #[(.int .i64 0), (.int .i64 0), (.int .i64 0)]), 3, 24) := by kernel_rfl
theorem R_fresh (W : World) (e : Nat) (ok : Nat → Prop) (hk : ok W.heap.size) : Kd.R (Kd.int .i64) e (W.alloc (.cells #[] e)) W.heap.size ok (.slice (some ⟨W.heap.size, 0, none⟩) 0 0) [] :=
 ⟨fun k h => by
 have h2 : W.heap.size = k := by simpa [Value.ownBlock] using h
 rw [← h2]; exact hk, [], own_lit W W.heap.size e .i64 [] (Nat.le_refl _) (by simp), Reps.none _ _⟩
theorem own_ge {α : Type} {d : Kd α} {e b : Nat} {ok : Nat → Prop} {w : World} {v : Value} {xs : List α} (h : d.R e w b ok v xs) : ∀ k, v.ownBlock = some k → b ≤ k := Kd.R_base h
theorem info_int : (Try.prog.info? 3).map (fun i => (i.zero, i.size, i.bytes)) = some (some (.int .i64 0), 1, 8) := by kernel_rfl
theorem Fr.cellAt {tG G base n kk : Nat} {w W : World} {ad : Addr} {a : List Int} {x : Int} (hf : Fr tG G base w W) (h : ∀ W', Fr tG G base w W' → Kd.C (Kd.int .i64) W' (some ad) n a) (hk : kk < n) (hx : rd a kk = x) : W.cell? (ad.add kk) = some (.int .i64 x) := by
 obtain ⟨ad', e, hc⟩ := Kd.at_int (h W hf) (kk : Int) (by omega) (by omega)
 cases e
 rwa [hx, Int.toNat_natCast] at hc
theorem bd_cell_new {w : World} {p : Addr} {v : Value} (h : w.cell? p = some v) (o : Obj) : (w.alloc o).cell? p = some v :=
 ((Below.refl w.heap.size w).alloc (Nat.le_refl _) o).cell (World.block_lt_of_cell? w _ h) |>.trans h
theorem Fr.cellAtI {tG G base n : Nat} {w W : World} {ad : Addr} {a : List Int} {x i : Int} (hf : Fr tG G base w W) (h : ∀ W', Fr tG G base w W' → Kd.C (Kd.int .i64) W' (some ad) n a) (h0 : 0 ≤ i) (hk : i < n) (hx : rd a i = x) : W.cell? (ad.add i.toNat) = some (.int .i64 x) := by
 obtain ⟨ad', e, hc⟩ := Kd.at_int (h W hf) i h0 hk
 cases e
 rwa [hx] at hc
/-- A row that lies ahead of a row that grows. -/
theorem R_old_grown {α : Type} {d : Kd α} {e b N : Nat} {ok : Nat → Prop} {W w1 : World} {v : Value} {xs : List α} {row : Option Nat} (h : d.R e W b (fun k => ok k ∧ k < N) v xs) (hg : W.grownBy w1 row) (hr : ∀ k, row = some k → N ≤ k) : d.R e w1 b (fun k => ok k ∧ k < N) v xs :=
 Kd.R_grown h hg (fun k hk he => by have := hr k he.symm; omega)
theorem R_till {α : Type} {d : Kd α} {e b : Nat} {ok : Nat → Prop} {W : World} {v : Value} {xs : List α} (h : d.R e W b ok v xs) : d.R e W b (fun k => ok k ∧ k < W.heap.size) v xs := Kd.R_mono (Kd.R_bound h) (fun _ hk => ⟨hk.1, hk.2.2.1⟩)
theorem R_setI {W : World} {g n cap e b : Nat} {ok : Nat → Prop} {xs : List Int} (h : Kd.R (Kd.int .i64) e W b ok (.slice (some ⟨g, 0, none⟩) n cap) xs) (i : Nat) (hi : i < n) (x : Int) :
 Kd.R (Kd.int .i64) e (W.setCell ⟨g, i, none⟩ (.int .i64 x)) b ok (.slice (some ⟨g, 0, none⟩) n cap) (xs.set i x) ∧ W.grownBy (W.setCell ⟨g, i, none⟩ (.int .i64 x)) (some g) := by
 obtain ⟨c, hcl, hM, hcc, _⟩ := Kd.R_elem h 0 (i : Int) (by omega) (by omega)
 have h2 := Kd.R_seg h (i : Int) (by omega) (by omega) (c := c) (seg := [.int .i64 x]) (j := 0) hcl (fun j u hu => hcc j u hu) (by simp [Kd.int, Kd.scalar]) (x' := x) (okp := fun _ => False) (by
 have hc1 : c.length = 1 := hcl
 match c, hc1 with
 | [c0], _ => simp [Kd.int, Kd.scalar]) (fun _ hk => hk.elim)
 have e1 : (i : Int).toNat * (Kd.int .i64).sz + 0 = i := by simp [Kd.int, Kd.scalar]
 rw [e1, Int.toNat_natCast] at h2
 exact h2
/-- The place of an element of one's own row: it can be read and written. -/
theorem R_placeI {W : World} {g n cap e b : Nat} {ok : Nat → Prop} {xs : List Int} (h : Kd.R (Kd.int .i64) e W b ok (.slice (some ⟨g, 0, none⟩) n cap) xs) (i : Nat) (hi : i < n) : (∃ u, W.cell? ⟨g, i, none⟩ = some (.int .i64 u)) ∧ W.frozen? ⟨g, i, none⟩ = false := by
 obtain ⟨c, hcl, hM, hcc, hfr⟩ := Kd.R_elem h 0 (i : Int) (by omega) (by omega)
 have e1 : (i : Int).toNat * (Kd.int .i64).sz + 0 = i := by simp [Kd.int, Kd.scalar]
 obtain ⟨ad, e, hc⟩ := Kd.at_int (Kd.R_reads' h).2.2 (i : Int) (by omega) (by have := (Kd.R_reads' h).1; omega)
 cases e
 have hf := hfr 0
 rw [e1] at hf
 rw [Int.toNat_natCast, add_plain] at hc
 exact ⟨⟨_, hc⟩, hf⟩
theorem R_new_grown {α : Type} {d : Kd α} {e N : Nat} {ok : Nat → Prop} {W w1 : World} {v : Value} {xs : List α} {row : Option Nat} (h : d.R e W N ok v xs) (hg : W.grownBy w1 row) (hr : ∀ k, row = some k → k < N) : d.R e w1 N ok v xs :=
 Kd.R_mono (Kd.R_grown (Kd.R_bound h) hg (fun k hk he => by have := hr k he.symm; have := hk.2.1; omega)) (fun _ hk => hk.1)
theorem R_one (W : World) (e : Nat) (ok : Nat → Prop) (x : Int) (hk : ok W.heap.size) : Kd.R (Kd.int .i64) e (W.alloc (.cells #[.int .i64 x] e)) W.heap.size ok (.slice (some ⟨W.heap.size, 0, none⟩) 1 1) [x] :=
 ⟨fun k h => by
 have h2 : W.heap.size = k := by simpa [Value.ownBlock] using h
 rw [← h2]; exact hk, [.int .i64 x], own_lit W W.heap.size e .i64 [x] (Nat.le_refl _) (by simp), Reps.one (by simp [Kd.int, Kd.scalar]) (Reps.none _ _)⟩
/-- Gates put one behind the other, and their wires. -/
def emitN (ins : Int) (f : Nat → S93) (g : List S93) : Nat → List S93 × List Int
 | 0 => (g, [])
 | n + 1 => ((emitN ins f g n).1 ++ [f n], (emitN ins f g n).2 ++ [ins + ((emitN ins f g n).1.length : Int)])
theorem emitN_len (ins : Int) (f : Nat → S93) (g : List S93) : ∀ n, (emitN ins f g n).1.length = g.length + n ∧ (emitN ins f g n).2.length = n
 | 0 => ⟨rfl, rfl⟩
 | n + 1 => by
 have h := emitN_len ins f g n
 simp only [emitN, List.length_append, List.length_singleton]
 omega
/-- An adder. -/
def addN (ins : Int) (a b : List Int) (c : Int) (g : List S93) : Nat → List S93 × List Int × Int
 | 0 => (g, [], c)
 | n + 1 =>
 let s := addN ins a b c g n
 let d := ins + (s.1.length : Int)
 (s.1 ++ [⟨5, rd a n, rd b n⟩] ++ [⟨5, d, s.2.2⟩] ++ [⟨3, rd a n, rd b n⟩] ++ [⟨3, d, s.2.2⟩] ++ [⟨4, d + 2, d + 3⟩], s.2.1 ++ [d + 1], d + 4)
theorem addN_len (ins : Int) (a b : List Int) (c : Int) (g : List S93) : ∀ n, (addN ins a b c g n).1.length = g.length + 5 * n ∧ (addN ins a b c g n).2.1.length = n
 | 0 => ⟨rfl, rfl⟩
 | n + 1 => by
 have h := addN_len ins a b c g n
 simp only [addN, List.length_append, List.length_singleton]
 omega
/-- A comparison. -/
def lessN (ins : Int) (a b : List Int) (g : List S93) : Nat → List S93 × Int
 | 0 => (g ++ [⟨1, 0, 0⟩], ins + (g.length : Int))
 | n + 1 =>
 let s := lessN ins a b g n
 let d := ins + (s.1.length : Int)
 (s.1 ++ [⟨5, rd a n, rd b n⟩] ++ [⟨2, d, 0⟩] ++ [⟨3, d + 1, s.2⟩] ++ [⟨2, rd a n, 0⟩] ++ [⟨3, d + 3, rd b n⟩] ++ [⟨4, d + 2, d + 4⟩], d + 5)
theorem lessN_len (ins : Int) (a b : List Int) (g : List S93) : ∀ n, (lessN ins a b g n).1.length = g.length + 1 + 6 * n
 | 0 => by simp [lessN]
 | n + 1 => by
 have h := lessN_len ins a b g n
 simp only [lessN, List.length_append, List.length_singleton]
 omega
/-- A comparison for equality. -/
def eqN (ins : Int) (a b : List Int) (g : List S93) : Nat → List S93 × Int
 | 0 => (g ++ [⟨1, 1, 0⟩], ins + (g.length : Int))
 | n + 1 =>
 let s := eqN ins a b g n
 let d := ins + (s.1.length : Int)
 (s.1 ++ [⟨5, rd a n, rd b n⟩] ++ [⟨2, d, 0⟩] ++ [⟨3, d + 1, s.2⟩], d + 2)
theorem eqN_len (ins : Int) (a b : List Int) (g : List S93) : ∀ n, (eqN ins a b g n).1.length = g.length + 1 + 3 * n
 | 0 => by simp [eqN]
 | n + 1 => by
 have h := eqN_len ins a b g n
 simp only [eqN, List.length_append, List.length_singleton]
 omega
/-- A multiplier. -/
def mulF (a b : List Int) (k i : Nat) : S93 := if i < k then ⟨1, 0, 0⟩ else ⟨3, rd a ((i : Int) - k), rd b k⟩
def mulN (ins : Int) (a b : List Int) (g : List S93) : Nat → List S93 × List Int
 | 0 => emitN ins (fun _ => ⟨1, 0, 0⟩) g a.length
 | n + 1 =>
 let s := mulN ins a b g n
 let p := emitN ins (mulF a b n) s.1 a.length
 let q := addN ins s.2 p.2 (ins + (p.1.length : Int)) (p.1 ++ [⟨1, 0, 0⟩]) s.2.length
 (q.1, q.2.1)
theorem mulN_len (ins : Int) (a b : List Int) (g : List S93) : ∀ n, (mulN ins a b g n).1.length = g.length + a.length + n * (6 * a.length + 1) ∧ (mulN ins a b g n).2.length = a.length
 | 0 => by
 have h := emitN_len ins (fun _ => ⟨1, 0, 0⟩) g a.length
 simp only [mulN]
 omega
 | n + 1 => by
 have h := mulN_len ins a b g n
 simp only [mulN]
 have h1 := emitN_len ins (mulF a b n) (mulN ins a b g n).1 a.length
 have h2 := addN_len ins (mulN ins a b g n).2 (emitN ins (mulF a b n) (mulN ins a b g n).1 a.length).2 (ins + ((emitN ins (mulF a b n) (mulN ins a b g n).1 a.length).1.length : Int)) ((emitN ins (mulF a b n) (mulN ins a b g n).1 a.length).1 ++ [⟨1, 0, 0⟩]) (mulN ins a b g n).2.length
 rw [List.length_append, List.length_singleton] at h2
 have e : (n + 1) * (6 * a.length + 1) = n * (6 * a.length + 1) + (6 * a.length + 1) := Nat.succ_mul _ _
 exact ⟨by omega, by omega⟩
/-- A number's bit. -/
def bitv (n : Int) (i : Nat) : Int := wrap64 (Go.bits .and .u64 (n / 2 ^ min i 64) 1)
theorem bitv_zero (i : Nat) : bitv 0 i = 0 := by
 unfold bitv
 rw [Int.zero_ediv, show Go.bits .and .u64 0 1 = 0 from rfl]
 simp [wrap64]
/-- The gates of an operator with two operands, and the wires of its result. -/
def twoN (ins : Int) (op : Int) (a b : List Int) (g : List S93) : List S93 × List Int :=
 if op = 8 ∨ op = 17 then emitN ins (fun i => ⟨3, rd a i, rd b i⟩) g a.length
 else if op = 9 ∨ op = 18 then emitN ins (fun i => ⟨4, rd a i, rd b i⟩) g a.length
 else if op = 10 then emitN ins (fun i => ⟨5, rd a i, rd b i⟩) g a.length
 else if op = 3 then ((addN ins a b (ins + (g.length : Int)) (g ++ [⟨1, 0, 0⟩]) a.length).1, (addN ins a b (ins + (g.length : Int)) (g ++ [⟨1, 0, 0⟩]) a.length).2.1)
 else if op = 4 then
 let p := emitN ins (fun i => ⟨2, rd b i, 0⟩) g b.length
 ((addN ins a p.2 (ins + (p.1.length : Int)) (p.1 ++ [⟨1, 1, 0⟩]) a.length).1, (addN ins a p.2 (ins + (p.1.length : Int)) (p.1 ++ [⟨1, 1, 0⟩]) a.length).2.1)
 else if op = 5 then mulN ins a b g b.length
 else if op = 14 then ((eqN ins a b g a.length).1, [(eqN ins a b g a.length).2])
 else if op = 15 then ((lessN ins a b g a.length).1, [(lessN ins a b g a.length).2])
 else
 let m := a.length - 1
 let d := ins + (g.length : Int)
 let s := lessN ins (a.set m d) (b.set m (d + 1)) (g ++ [⟨2, rd a m, 0⟩] ++ [⟨2, rd b m, 0⟩]) a.length
 (s.1, [s.2])


-- HAND
/-! ### spec_l4Build_gate: function 92 -/
-- IMPORT Derived.StillTailTactics
set_option maxHeartbeats 8000000 in
set_option maxRecDepth 100000 in
/-- A gate that is put: its wire, and the circuit behind it. -/
theorem spec_l4Build_gate.calls (G base : Nat) (ins : Int) (ov : Value) (g g' : List S93) (a1 a2 a3 n : Int) (w : World) (hb : base ≤ w.heap.size) (HBD : Bd 85 G base ins ov w g)
 (hi0 : 0 ≤ ins) (hi1 : ins ≤ 1000000) (hl : g.length ≤ 1000000) (hn : n = ins + (g.length : Int)) (hg' : g' = g ++ [⟨a1, a2, a3⟩]) :
 Calls Try.prog 92 #[.pointer (some ⟨G, 0, none⟩), .int .i64 a1, .int .i64 a2, .int .i64 a3] w fun e w' => e = .returned (.int .i64 n) ∧ Bd 85 G base ins ov w' g' ∧ Fr 93 G base w w' := by
 obtain ⟨gv, hG, hR⟩ := HBD
 have hGlt := blk_lt hG
 obtain ⟨A0, c0, rfl⟩ := Kd.R_slice hR
 have hne := Kd.R_ne hR hG (by decide)
 have hty := Kd.R_typed hR
 have hbs := Kd.R_base hR
 have hlt := Kd.R_lt hR
 have hc0 : w.cell? ⟨G, 0, none⟩ = some (.int .i64 ins) := (blk_cell hG 0).trans rfl
 have hc1 : w.cell? ⟨G, 1, none⟩ = some (.slice A0 g.length c0) := (blk_cell hG 1).trans rfl
 have hc2 : w.cell? ⟨G, 2, none⟩ = some ov := (blk_cell hG 2).trans rfl
 have HR := Aside0.mk hR
 have HG := Aside0.mk hG
 have HNE := Aside0.mk hne
 have HTY := Aside0.mk hty
 have HBS := Aside0.mk hbs
 have HN := Aside0.mk hn
 have HG' := Aside0.mk hg'
 clear hR hG hne hty hbs hlt hn hg'
 have hu1 := Try.underlying24
 have hu2 := Try.underlying93
 have hu3 := Try.underlying27
 have hu4 := Try.underlying85
 go_enter Try.func92, Try.ntmps92
 go_wp2_with (first
 | ((with_reducible refine gate_builtin (b := .append) (xs := #[.tmp 14, .tmp 19]) rfl ?_); at_builtin; refine Kd.R_append k93 (w0 := w) base rfl (.tmp 14) (.tmp 19) 24 93 (.agg #[.int .i64 0, .int .i64 0, .int .i64 0]) 24 rfl Try.underlying24 info_gate rfl (by decide) (by omega) _ g ⟨a1, a2, a3⟩ [.int .i64 a1, .int .i64 a2, .int .i64 a3] (fun _ => True) (fun _ => False) rfl (by first | (go_simp; done) | (go_simp; rfl)) ?aP (fun _ hk => hk.elim) ?aF ?aO ?aB ?aS ?aL ?_; (case aP => exact k93_mkM _ _ _ ⟨a1, a2, a3⟩); (case aF => exact fun _ _ => trivial); (case aO => (with_reducible repeat (first | apply Kd.R_alloc | apply Kd.R_drewN | apply Kd.R_drew)); exact HR.out); (case aB => repeat (first | (with_reducible first | exact Below.refl _ _ | apply below_alloc | apply pw_below_drewN | apply below_drew1))); (case aS => first | omega | (simp; omega)); (case aL => first | omega | (simp; omega)); intro v3 w3 hv hb3 hg_ ha_; obtain ⟨A3, c3, rfl⟩ := Kd.R_slice hv; have hG3 := (hg_.block G hGlt HNE.out).trans HG.out; have hd0 : w3.cell? ⟨G, 0, none⟩ = some (.int .i64 ins) := (blk_cell hG3 0).trans rfl; have hd1 : w3.cell? ⟨G, 1, none⟩ = some (.slice A0 g.length c0) := (blk_cell hG3 1).trans rfl; have hd2 : w3.cell? ⟨G, 2, none⟩ = some ov := (blk_cell hG3 2).trans rfl; have hd3 : w3.frozen? ⟨G, 1, none⟩ = false := blk_frozen hG3 1; have HV3 := Aside0.mk hv; have HG3 := Aside0.mk hG3; have HF3 := Aside0.mk (Fr.grown_own (tG := 93) (G := G) (base := base) hg_ (fun k e_ => ⟨HBS.out k e_, HTY.out k e_⟩)); clear hv hb3 hg_ ha_ hG3 hc0 hc1 hc2)
 | (go_at_call 67; go_in))
 go_ret
 refine ⟨congrArg (fun z => Ending.returned (.int .i64 z)) (by have := HN.out; omega), ?_, ?_⟩
 ·rw [HG'.out]
 refine ⟨.slice A3 (g.length + 1) c3, blk_alloc (by simpa using blk_set HG3.out 1 (.slice A3 (g.length + 1) c3)) _, ?_⟩
 have h5 := HV3.out
 rw [List.length_append, List.length_singleton] at h5
 exact Kd.R_alloc (Kd.R_set h5 HG3.out (by decide) 1 _) _
 ·exact (HF3.out.trans (Fr.setG (Fr.refl _ _ _ _) 1 _)).alloc _


-- HAND
/-! ### spec_l4Build_bits: function 62 -/
-- IMPORT Derived.StillTailTactics
set_option maxHeartbeats 16000000 in
set_option maxRecDepth 100000 in
/-- A constant gate for each bit. -/
theorem spec_l4Build_bits.calls (G base : Nat) (ins : Int) (ov : Value) (g : List S93) (n : Int) (wd : Nat) (w : World) (hb : base ≤ w.heap.size) (HBD : Bd 85 G base ins ov w g) (hi0 : 0 ≤ ins) (hi1 : ins ≤ 1000000) (hl : g.length ≤ 900000) (hal : wd ≤ 10000) (hn0 : 0 ≤ n) (hn1 : n < 18446744073709551616) :
 Calls Try.prog 62 #[.pointer (some ⟨G, 0, none⟩), .int .u64 n, .int .i64 wd] w fun e w' => ∃ v : Value, e = .returned v ∧ Bd 85 G base ins ov w' (emitN ins (fun i => ⟨1, bitv n i, 0⟩) g wd).1 ∧ Kd.R (Kd.int .i64) 3 w' w.heap.size (fun k => k ≠ G) v (emitN ins (fun i => ⟨1, bitv n i, 0⟩) g wd).2 ∧ Fr 93 G base w w' := by
 have hGlt : G < w.heap.size := by obtain ⟨gv, hG, _⟩ := HBD; exact blk_lt hG
 have HBD0 := Aside0.mk HBD
 clear HBD
 have hu1 := Try.underlying25
 go_enter Try.func62, Try.ntmps62
 go_wp2
 have HV0 := Aside0.mk (Kd.R_nil (Kd.int .i64) 3 w w.heap.size (fun k => k ≠ G))
 have HBD1 := HBD0
 have HF1 := Aside0.mk (Fr.refl 93 G base w)
 go_loopg [7, 8] wd (fun gg so si wr => ∃ kk : Nat, kk ≤ wd ∧ wd - kk ≤ gg ∧ si = .int .i64 kk ∧ Aside0 (Bd 85 G base ins ov wr (emitN ins (fun i => ⟨1, bitv n i, 0⟩) g kk).1) ∧ Aside0 (Kd.R (Kd.int .i64) 3 wr w.heap.size (fun k => k ≠ G) so (emitN ins (fun i => ⟨1, bitv n i, 0⟩) g kk).2) ∧ Aside0 (Fr 93 G base w wr))
 case atStart => exact ⟨0, Nat.zero_le _, by omega, rfl, HBD1, HV0, HF1⟩
 case round =>
 clear HBD0 HBD1 HV0 HF1
 obtain ⟨kk, hkk, hg, rfl, HBD, HV, HF⟩ := hrel
 have hlen := emitN_len ins (fun i => ⟨1, bitv n i, 0⟩) g kk
 by_cases hlt : kk < wd
 ·have hltz : (kk : Int) < (wd : Int) := by omega
   have hs : emitN ins (fun i => ⟨1, bitv n i, 0⟩) g (kk + 1) = ((emitN ins (fun i => ⟨1, bitv n i, 0⟩) g kk).1 ++ [⟨1, bitv n kk, 0⟩], (emitN ins (fun i => ⟨1, bitv n i, 0⟩) g kk).2 ++ [(ins + ((emitN ins (fun i => ⟨1, bitv n i, 0⟩) g kk).1.length : Int))]) := rfl
   obtain ⟨gs, hgs⟩ : ∃ q, (emitN ins (fun i => ⟨1, bitv n i, 0⟩) g kk).1 = q := ⟨_, rfl⟩
   obtain ⟨os, hos⟩ : ∃ q, (emitN ins (fun i => ⟨1, bitv n i, 0⟩) g kk).2 = q := ⟨_, rfl⟩
   rw [hgs, hos] at hlen hs
   rw [hgs] at HBD
   rw [hos] at HV
   clear hgs hos
   obtain ⟨hl1, hl2⟩ := hlen
   have hol : os.length ≤ 10000 := by omega
   have hgl : gs.length ≤ 950000 := by omega
   obtain ⟨d, hd⟩ : ∃ d, ins + (gs.length : Int) = d := ⟨_, rfl⟩
   rw [hd] at hs
   have hd0 : 0 ≤ d := by omega
   have hd1 : d ≤ 2000000 := by omega
   clear hl1 hl2
   obtain ⟨x, hx⟩ : ∃ x, bitv n kk = x := ⟨_, rfl⟩
   rw [hx] at hs
   have HX := Aside0.mk hx
   clear hx
   obtain ⟨g1, hg1⟩ : ∃ q, q = gs ++ [(⟨1, x, 0⟩ : S93)] := ⟨_, rfl⟩
   rw [← hg1] at hs
   have N0 := Aside0.mk (show d = ins + (gs.length : Int) by omega)
   have L0 : gs.length ≤ 1000000 := by omega
   have G1 := Aside0.mk hg1
   have tok1 : True := trivial
   have HS := Aside0.mk hs
   clear hs hd hg1
   clear hgl
   go_wp2_with (first
     | (go_at_call 92; have _t := tok1; refine calls_of_args (args' := #[.pointer (some ⟨G, 0, none⟩), .int .i64 1, .int .i64 x, .int .i64 0]) (by rw [← HX.out]; rfl) ?_; refine (spec_l4Build_gate.calls G base ins ov gs g1 1 x 0 d _ (Nat.le_trans hb HF.out.size) HBD.out hi0 hi1 L0 N0.out G1.out).mono ?_; rintro e w1 ⟨rfl, hbd, hf⟩; have B1 := Aside0.mk hbd; have F1 := Aside0.mk (HF.out.trans hf); have V1 := Aside0.mk (Fr.R hf HV.out (by decide) (fun _ hk => hk)); clear tok1 hbd hf)
     | ((with_reducible refine gate_builtin (b := .append) (xs := #[.tmp 14, .tmp 23]) rfl ?_); at_builtin; refine Kd.R_append (Kd.int .i64) (w0 := w1) w.heap.size rfl (.tmp 14) (.tmp 23) 25 3 (.int .i64 0) 8 rfl Try.underlying25 info_int rfl (by decide) (by omega) _ os d [.int .i64 d] (fun k => k ≠ G) (fun _ => False) rfl (by first | (go_simp; done) | (go_simp; rfl)) ?aP (fun _ hk => hk.elim) ?aF ?aO ?aB ?aS ?aL ?_; (case aP => exact rfl); (case aF => intro k hk; have hsz_ := F1.out.size; omega); (case aO => exact V1.out); (case aB => exact Below.refl _ _); (case aS => exact F1.out.size); (case aL => omega); intro v22 w22 hv _ hg_ _; have V22 := Aside0.mk hv; have B22 := Aside0.mk (Bd.grown B1.out hg_ (Kd.R_typed V1.out) (by decide) (by decide)); have F22 := Aside0.mk (Fr.grown_new F1.out hg_ (own_ge V1.out)); clear hv hg_))
   go_roundg (wd - (kk + 1))
   case measure => omega
   case rel => exact ⟨kk + 1, by omega, by omega, by go_num, by rw [HS.out]; exact B22, by rw [HS.out]; exact V22, F22⟩
 ·have hltz : ¬ (kk : Int) < (wd : Int) := by omega
   obtain rfl : kk = wd := by omega
   go_wp2
   go_ret
   exact ⟨_, rfl, HBD.out, HV.out, HF.out⟩


-- HAND
/-! ### spec_l4Build_nots: function 63 -/
-- IMPORT Derived.StillTailTactics
set_option maxHeartbeats 16000000 in
set_option maxRecDepth 100000 in
/-- A gate that denies, for each wire. -/
theorem spec_l4Build_nots.calls (G base : Nat) (ins : Int) (ov : Value) (g : List S93) (A1 : Option Addr) (c1 : Nat) (a : List Int) (w : World) (hb : base ≤ w.heap.size) (HBD : Bd 85 G base ins ov w g) (ha : (∀ W', Fr 93 G base w W' → Kd.C (Kd.int .i64) W' A1 a.length a)) (hi0 : 0 ≤ ins) (hi1 : ins ≤ 1000000) (hl : g.length ≤ 900000) (hal : a.length ≤ 10000) :
 Calls Try.prog 63 #[.pointer (some ⟨G, 0, none⟩), .slice A1 a.length c1] w fun e w' => ∃ v : Value, e = .returned v ∧ Bd 85 G base ins ov w' (emitN ins (fun i => ⟨2, rd a i, 0⟩) g a.length).1 ∧ Kd.R (Kd.int .i64) 3 w' w.heap.size (fun k => k ≠ G) v (emitN ins (fun i => ⟨2, rd a i, 0⟩) g a.length).2 ∧ Fr 93 G base w w' := by
 have hGlt : G < w.heap.size := by obtain ⟨gv, hG, _⟩ := HBD; exact blk_lt hG
 have HBD0 := Aside0.mk HBD
 have Hha := Aside0.mk ha
 clear HBD ha
 have hu1 := Try.underlying25
 go_enter Try.func63, Try.ntmps63
 go_wp2
 have HV0 := Aside0.mk (Kd.R_nil (Kd.int .i64) 3 w w.heap.size (fun k => k ≠ G))
 have HBD1 := HBD0
 have HF1 := Aside0.mk (Fr.refl 93 G base w)
 go_loopg [5, 10] a.length (fun gg so si wr => ∃ kk : Nat, kk ≤ a.length ∧ a.length - kk ≤ gg ∧ si = .int .i64 kk ∧ Aside0 (Bd 85 G base ins ov wr (emitN ins (fun i => ⟨2, rd a i, 0⟩) g kk).1) ∧ Aside0 (Kd.R (Kd.int .i64) 3 wr w.heap.size (fun k => k ≠ G) so (emitN ins (fun i => ⟨2, rd a i, 0⟩) g kk).2) ∧ Aside0 (Fr 93 G base w wr))
 case atStart => exact ⟨0, Nat.zero_le _, by omega, rfl, HBD1, HV0, HF1⟩
 case round =>
 clear HBD0 HBD1 HV0 HF1
 obtain ⟨kk, hkk, hg, rfl, HBD, HV, HF⟩ := hrel
 have hlen := emitN_len ins (fun i => ⟨2, rd a i, 0⟩) g kk
 by_cases hlt : kk < a.length
 ·have hltz : (kk : Int) < (a.length : Int) := by omega
   have hs : emitN ins (fun i => ⟨2, rd a i, 0⟩) g (kk + 1) = ((emitN ins (fun i => ⟨2, rd a i, 0⟩) g kk).1 ++ [⟨2, rd a kk, 0⟩], (emitN ins (fun i => ⟨2, rd a i, 0⟩) g kk).2 ++ [(ins + ((emitN ins (fun i => ⟨2, rd a i, 0⟩) g kk).1.length : Int))]) := rfl
   obtain ⟨gs, hgs⟩ : ∃ q, (emitN ins (fun i => ⟨2, rd a i, 0⟩) g kk).1 = q := ⟨_, rfl⟩
   obtain ⟨os, hos⟩ : ∃ q, (emitN ins (fun i => ⟨2, rd a i, 0⟩) g kk).2 = q := ⟨_, rfl⟩
   rw [hgs, hos] at hlen hs
   rw [hgs] at HBD
   rw [hos] at HV
   clear hgs hos
   obtain ⟨hl1, hl2⟩ := hlen
   have hol : os.length ≤ 10000 := by omega
   have hgl : gs.length ≤ 950000 := by omega
   obtain ⟨d, hd⟩ : ∃ d, ins + (gs.length : Int) = d := ⟨_, rfl⟩
   rw [hd] at hs
   have hd0 : 0 ≤ d := by omega
   have hd1 : d ≤ 2000000 := by omega
   clear hl1 hl2
   obtain ⟨ad, e, hxa⟩ := Kd.at_int (Hha.out _ HF.out) (kk : Int) (by omega) hltz
   cases e
   rw [Int.toNat_natCast] at hxa
   obtain ⟨x, hx⟩ : ∃ x, rd a kk = x := ⟨_, rfl⟩
   rw [hx] at hs hxa
   have HX := Aside0.mk hx
   clear hx
   obtain ⟨g1, hg1⟩ : ∃ q, q = gs ++ [(⟨2, x, 0⟩ : S93)] := ⟨_, rfl⟩
   rw [← hg1] at hs
   have N0 := Aside0.mk (show d = ins + (gs.length : Int) by omega)
   have L0 : gs.length ≤ 1000000 := by omega
   have G1 := Aside0.mk hg1
   have tok1 : True := trivial
   have HS := Aside0.mk hs
   clear hs hd hg1
   clear hgl
   go_wp2_with (first
     | (go_at_call 92; have _t := tok1; refine (spec_l4Build_gate.calls G base ins ov gs g1 2 x 0 d _ (Nat.le_trans hb HF.out.size) HBD.out hi0 hi1 L0 N0.out G1.out).mono ?_; rintro e w1 ⟨rfl, hbd, hf⟩; have B1 := Aside0.mk hbd; have F1 := Aside0.mk (HF.out.trans hf); have V1 := Aside0.mk (Fr.R hf HV.out (by decide) (fun _ hk => hk)); clear tok1 hbd hf hxa; have hxa := Fr.cellAt F1.out Hha.out hlt HX.out)
     | ((with_reducible refine gate_builtin (b := .append) (xs := #[.tmp 14, .tmp 18]) rfl ?_); at_builtin; refine Kd.R_append (Kd.int .i64) (w0 := w1) w.heap.size rfl (.tmp 14) (.tmp 18) 25 3 (.int .i64 0) 8 rfl Try.underlying25 info_int rfl (by decide) (by omega) _ os d [.int .i64 d] (fun k => k ≠ G) (fun _ => False) rfl (by first | (go_simp; done) | (go_simp; rfl)) ?aP (fun _ hk => hk.elim) ?aF ?aO ?aB ?aS ?aL ?_; (case aP => exact rfl); (case aF => intro k hk; have hsz_ := F1.out.size; omega); (case aO => exact V1.out); (case aB => exact Below.refl _ _); (case aS => exact F1.out.size); (case aL => omega); intro v22 w22 hv _ hg_ _; have V22 := Aside0.mk hv; have B22 := Aside0.mk (Bd.grown B1.out hg_ (Kd.R_typed V1.out) (by decide) (by decide)); have F22 := Aside0.mk (Fr.grown_new F1.out hg_ (own_ge V1.out)); clear hv hg_ hxa; have hxa := Fr.cellAt F22.out Hha.out hlt HX.out))
   go_roundg (a.length - (kk + 1))
   case measure => omega
   case rel => exact ⟨kk + 1, by omega, by omega, by go_num, by rw [HS.out]; exact B22, by rw [HS.out]; exact V22, F22⟩
 ·have hltz : ¬ (kk : Int) < (a.length : Int) := by omega
   obtain rfl : kk = a.length := by omega
   go_wp2
   go_ret
   exact ⟨_, rfl, HBD.out, HV.out, HF.out⟩

end Go.Proofs.Ytckgeanmljmhfaa.X
