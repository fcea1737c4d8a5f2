/- Each Go function as a Lean function, with the proof that the call comes to just its answer; or a law's row out of its pure statement. Conditions: the arguments are of their kinds. Written by this session's program wip/xp/xp.sh. -/
import Derived.Test.YtckdgmbmjfhodaaX0
import Derived.Test.YtckdgmbmjfhodaaX2
import Derived.Test.YtckdgmbmjfhodaaX20
import Derived.Test.YtckdgmbmjfhodaaX21
namespace Go.Proofs.Ytckdgmbmjfhodaa.X
open Go.RowKit Go.Proofs.YtckdgmbmjfhodaaW.PrintWords Go.Proofs.YtckdgmbmjfhodaaW.PrintLast Go.Proofs.YtckdgmbmjfhodaaW.PrintMore
attribute [local go_sem] max2_int min2_int max_two min_two max_three min_three max_four min_four   -- for this text's walks alone
set_option linter.unusedVariables false
set_option linter.unusedSimpArgs false

/-! ### spec_l2Value: function 37 -/
def spec_l2Value.f : Nat → Int → List (S52) → Int → List Int → Option (Int)
  | 0, _, _, _, _ => none
  | k + 1, a0, l1, a2, l3 => if 0 ≤ a2 then (if a2 < (l1.length : Int) then ((spec_l2Need.f k ((rd_T52 l1 a2).f0)).bind fun bt291 => (if ((rd_T52 l1 a2).f0) = 2 then (if 0 ≤ ((rd_T52 l1 a2).f1) then (if ((rd_T52 l1 a2).f1) < (l3.length : Int) then (some (rd l3 ((rd_T52 l1 a2).f1))) else (none)) else (none)) else (if bt291.1 = 0 then (some ((rd_T52 l1 a2).f1)) else (if ((rd_T52 l1 a2).f0) = 13 then ((spec_l2Value.f k a0 l1 (wrap64 (a2 - 1)) l3).bind fun t295 => ((spec_l1Cut.f k a0 (Go.bits .xor .u64 18446744073709551615 t295)).bind fun t296 => (some t296))) else (if ((rd_T52 l1 a2).f0) = 19 then ((spec_l2Value.f k a0 l1 (wrap64 (a2 - 1)) l3).bind fun t297 => (some (IntKind.u64.wrap (1 - t297)))) else ((spec_l2From.f k l1 (wrap64 (a2 - 1))).bind fun t298 => ((spec_l2Value.f k a0 l1 (wrap64 (t298 - 1)) l3).bind fun t299 => ((spec_l2Value.f k a0 l1 (wrap64 (a2 - 1)) l3).bind fun t300 => ((spec_l2Do.f k a0 ((rd_T52 l1 a2).f0) t299 t300).bind fun t301 => (some t301)))))))))) else (none)) else (none)
theorem spec_l2Value.mono_l : ∀ k, (∀ y0 y1 y2 y3, LeO (spec_l2Value.f k y0 y1 y2 y3) (spec_l2Value.f (k + 1) y0 y1 y2 y3))
  | 0 => fun _ _ _ _ r h => by simp [spec_l2Value.f] at h
  | k + 1 => by
    have ih0 := spec_l2Value.mono_l k
    · intro y0 y1 y2 y3
      unfold spec_l2Value.f
      repeat' first
      | (with_reducible exact ih0 _ _ _ _)
      | (with_reducible exact spec_l1Cut.mono _ _ _)
      | (with_reducible exact spec_l2Do.mono _ _ _ _ _)
      | (with_reducible exact spec_l2From.mono _ _ _)
      | (with_reducible exact spec_l2Need.mono _ _)
      | (with_reducible exact LeO.refl _)
      | (with_reducible exact LeO.none _)
      | (with_reducible refine LeO.ite ?_ ?_)
      | (with_reducible refine LeO.bind ?_ (fun _ => ?_))
      | exact ih0 _ _ _ _
      | exact spec_l1Cut.mono _ _ _
      | exact spec_l2Do.mono _ _ _ _ _
      | exact spec_l2From.mono _ _ _
      | exact spec_l2Need.mono _ _
      | exact LeO.none _
      | refine LeO.ite ?_ ?_
      | refine LeO.bind ?_ (fun _ => ?_)
theorem spec_l2Value.mono : ∀ a0 a1 a2 a3 k, LeO (spec_l2Value.f k a0 a1 a2 a3) (spec_l2Value.f (k + 1) a0 a1 a2 a3) := by
  intro a0 a1 a2 a3 k
  have ih0 := spec_l2Value.mono_l k
  exact ih0 a0 a1 a2 a3
def spec_l2Value.T11 : Bool × List (List Nat × List Nat) := (true, [([], []), ([], []), ([1], [1]), ([], []), ([], []), ([], []), ([], []), ([6], [6]), ([5, 7], [5, 7]), ([8], [8]), ([], []), ([3, 4, 9, 10, 8], [3, 4, 9, 10]), ([], []), ([], []), ([], []), ([14], [14]), ([], []), ([12, 13, 15, 16, 11], [12, 13, 15, 16]), ([0, 2, 11, 17, 17], [0, 2, 11, 17]), ([18, 18, 0, 1, 2, 3, 4, 5, 6, 7, 8, 9, 10, 11, 12, 13, 14, 15, 16, 17, 18], [18])])
def spec_l2Value.B11 : List Nat := [0, 0, 2, 0, 0, 0, 0, 64, 224, 480, 0, 2040, 0, 0, 0, 16384, 0, 131064, 262143, 524287]
theorem spec_l2Value.tab11 : rtab .any (opsOf Try.f37 11) = spec_l2Value.T11 := by kernel_rfl
theorem spec_l2Value.bits11 : waitsOk spec_l2Value.T11.2 spec_l2Value.B11 = true := by kernel_rfl
set_option maxHeartbeats 8000000 in
set_option maxRecDepth 100000 in
theorem spec_l2Value.calls (k : Nat) : ∀ (a0 : Int) (A1 : Option Addr) (c1 : Nat) (l1 : List (S52)) (a2 : Int) (A3 : Option Addr) (c3 : Nat) (l3 : List Int) (r : Int) (w : World) (hr1 : Kd.C k52 w A1 l1.length l1) (hc1 : l1.length ≤ c1) (hr3 : Kd.C (Kd.int .u64) w A3 l3.length l3) (hc3 : l3.length ≤ c3) (h : spec_l2Value.f k a0 l1 a2 l3 = some r),
    Calls Try.prog 37 #[.int .i64 a0, .slice A1 l1.length c1, .int .i64 a2, .slice A3 l3.length c3] w fun e w' => e = .returned (.int .u64 r) ∧ Below w.heap.size w w' := by
  induction k using Nat.strongRecOn with
  | _ k ih =>
  intro a0 A1 c1 l1 a2 A3 c3 l3 r w hr1 hc1 hr3 hc3 h
  cases k with
  | zero => exact absurd h (by simp [spec_l2Value.f])
  | succ k =>
  simp only [spec_l2Value.f] at h
  have hu52 := Try.underlying52
  have HR1 := Aside0.mk hr1
  have HC1 := Aside0.mk hc1
  clear hr1 hc1
  have HR3 := Aside0.mk hr3
  have HC3 := Aside0.mk hc3
  clear hr3 hc3
  have HB := Aside0.mk (Below.refl w.heap.size w)
  have H : (if 0 ≤ a2 then (if a2 < (l1.length : Int) then ((spec_l2Need.f k ((rd_T52 l1 a2).f0)).bind fun bt291 => (if ((rd_T52 l1 a2).f0) = 2 then (if 0 ≤ ((rd_T52 l1 a2).f1) then (if ((rd_T52 l1 a2).f1) < (l3.length : Int) then (some (rd l3 ((rd_T52 l1 a2).f1))) else (none)) else (none)) else (if bt291.1 = 0 then (some ((rd_T52 l1 a2).f1)) else (if ((rd_T52 l1 a2).f0) = 13 then ((spec_l2Value.f k a0 l1 (wrap64 (a2 - 1)) l3).bind fun t295 => ((spec_l1Cut.f k a0 (Go.bits .xor .u64 18446744073709551615 t295)).bind fun t296 => (some t296))) else (if ((rd_T52 l1 a2).f0) = 19 then ((spec_l2Value.f k a0 l1 (wrap64 (a2 - 1)) l3).bind fun t297 => (some (IntKind.u64.wrap (1 - t297)))) else ((spec_l2From.f k l1 (wrap64 (a2 - 1))).bind fun t298 => ((spec_l2Value.f k a0 l1 (wrap64 (t298 - 1)) l3).bind fun t299 => ((spec_l2Value.f k a0 l1 (wrap64 (a2 - 1)) l3).bind fun t300 => ((spec_l2Do.f k a0 ((rd_T52 l1 a2).f0) t299 t300).bind fun t301 => (some t301)))))))))) else (none)) else (none)) = some r := h
  clear h
  by_cases c5 : 0 ≤ a2
  · rw [if_pos c5] at H
    have c5b0 : decide (0 ≤ a2) = true := decide_eq_true c5
    clear c5
    by_cases c6 : a2 < (l1.length : Int)
    · rw [if_pos c6] at H
      have c6b0 : decide (a2 < (l1.length : Int)) = true := decide_eq_true c6
      clear c6
      replace H := Option.bind_eq_some_iff.mp H
      obtain ⟨⟨t291, t292, t293⟩, A70, H⟩ := H
      replace H : (if ((rd_T52 l1 a2).f0) = 2 then (if 0 ≤ ((rd_T52 l1 a2).f1) then (if ((rd_T52 l1 a2).f1) < (l3.length : Int) then (some (rd l3 ((rd_T52 l1 a2).f1))) else (none)) else (none)) else (if t291 = 0 then (some ((rd_T52 l1 a2).f1)) else (if ((rd_T52 l1 a2).f0) = 13 then ((spec_l2Value.f k a0 l1 (wrap64 (a2 - 1)) l3).bind fun t295 => ((spec_l1Cut.f k a0 (Go.bits .xor .u64 18446744073709551615 t295)).bind fun t296 => (some t296))) else (if ((rd_T52 l1 a2).f0) = 19 then ((spec_l2Value.f k a0 l1 (wrap64 (a2 - 1)) l3).bind fun t297 => (some (IntKind.u64.wrap (1 - t297)))) else ((spec_l2From.f k l1 (wrap64 (a2 - 1))).bind fun t298 => ((spec_l2Value.f k a0 l1 (wrap64 (t298 - 1)) l3).bind fun t299 => ((spec_l2Value.f k a0 l1 (wrap64 (a2 - 1)) l3).bind fun t300 => ((spec_l2Do.f k a0 ((rd_T52 l1 a2).f0) t299 t300).bind fun t301 => (some t301))))))))) = some r := H
      have A7 := Aside0.mk A70
      clear A70
      by_cases c8 : ((rd_T52 l1 a2).f0) = 2
      · rw [if_pos c8] at H
        have c8b0 : (((rd_T52 l1 a2).f0) == 2) = true := beq_iff_eq.mpr c8
        have c8b1 : (((rd_T52 l1 a2).f0) != 2) = false := bne_eq_false_iff_eq.mpr c8
        clear c8
        by_cases c9 : 0 ≤ ((rd_T52 l1 a2).f1)
        · rw [if_pos c9] at H
          have c9b0 : decide (0 ≤ ((rd_T52 l1 a2).f1)) = true := decide_eq_true c9
          clear c9
          by_cases c10 : ((rd_T52 l1 a2).f1) < (l3.length : Int)
          · rw [if_pos c10] at H
            have c10b0 : decide (((rd_T52 l1 a2).f1) < (l3.length : Int)) = true := decide_eq_true c10
            clear c10
            obtain rfl := Option.some.inj H
            have p289 : 0 ≤ (a2 : Int) := qD
            have q289 : a2 < (l1.length : Int) := qD
            obtain ⟨ad289, e289, hx289_0, hx289_1⟩ := at_T52 HR1.out a2 p289 q289
            cases e289
            replace p289 := eq_true p289
            replace q289 := eq_true q289
            go_enter Try.func37, Try.ntmps37
            go_wp2_with (first | ((with_reducible refine gate_dst (N := 9) rfl ?_); refine box_event ?hg (N := 9) ?hd (cs := #[.int .i64 0, .int .u64 0]) (t := 52) ?hr ?_; (case hd => rfl); (case hg => rfl); (case hr => first | (go_simp; done) | (go_simp; rfl)); intro gb290 hg w11 hbox hb; have n0_ := Aside0.mk (below_step (qB) hb); have n1_ := Aside0.mk (hbox); have n2_ := Aside0.mk ((by rw [hg]; exact (below_size (qB)) : w.heap.size ≤ gb290)); have n3_ := Aside0.mk ((by rw [hg]; exact (below_size (qB)) : w.heap.size ≤ gb290)); clear HB; have HB := n0_; have BK290 := n1_; have GW290 := n2_; have GE290 := n3_; clear n0_ n1_ n2_ n3_; clear hb hbox hg; have hcz12_0 : w11.cell? ⟨gb290, 0, none⟩ = some (.int .i64 0) := (blk_cell BK290.out 0).trans rfl; have hcz12_1 : w11.cell? ⟨gb290, 1, none⟩ = some (.int .u64 0) := (blk_cell BK290.out 1).trans rfl; have hfz12_0 := blk_frozen BK290.out 0; have hfz12_1 := blk_frozen BK290.out 1) | ((with_reducible refine gate_callee (f := 49) rfl ?_); refine goesL_ (some 20) rfl rfl Try.func49 (by kernel_rfl) rfl #[.int .i64 ((rd_T52 l1 a2).f0)] rfl qG ?_; (with_reducible refine (spec_l2Need.calls k ((rd_T52 l1 a2).f0) t291 t292 t293 _ A7.out).mono ?_); rintro e w' ⟨rfl, ⟨nd, rfl⟩⟩; refine ⟨_, rfl, ?_⟩; have p294 : 0 ≤ (((rd_T52 l1 a2).f1) : Int) := qD; have q294 : ((rd_T52 l1 a2).f1) < (l3.length : Int) := qD; obtain ⟨ad294, e294, hx294_0⟩ := Kd.at_int HR3.out ((rd_T52 l1 a2).f1) p294 q294; cases e294; have hn294_0 : ad294.block ≠ gb290 := Nat.ne_of_lt (Nat.lt_of_lt_of_le (by have := World.block_lt_of_cell? _ _ hx294_0; first | rwa [add_block] at this | exact this) GW290.out); have hn294_1 : ad294.block ≠ gb290 := Nat.ne_of_lt (Nat.lt_of_lt_of_le (by have := World.block_lt_of_cell? _ _ hx294_0; first | rwa [add_block] at this | exact this) GW290.out); replace hx294_0 := (HB.out.cell (World.block_lt_of_cell? w _ hx294_0)).trans hx294_0; replace hx294_0 := (cell_far (p := ⟨gb290, 0, none⟩) (qA hn294_0) (.int .i64 ((rd_T52 l1 a2).f0))).trans hx294_0; replace hx294_0 := (cell_far (p := ⟨gb290, 1, none⟩) (qA hn294_1) (.int .u64 ((rd_T52 l1 a2).f1))).trans hx294_0; clear hn294_0; clear hn294_1; replace p294 := eq_true p294; replace q294 := eq_true q294))
            go_ret
            exact ⟨qE, qB⟩
          · rw [if_neg c10] at H
            exact absurd H (by simp)
        · rw [if_neg c9] at H
          exact absurd H (by simp)
      · rw [if_neg c8] at H
        have c8b0 : (((rd_T52 l1 a2).f0) == 2) = false := beq_eq_false_iff_ne.mpr c8
        have c8b1 : (((rd_T52 l1 a2).f0) != 2) = true := bne_iff_ne.mpr c8
        by_cases c13 : t291 = 0
        · rw [if_pos c13] at H
          have c13b0 : (t291 == 0) = true := beq_iff_eq.mpr c13
          have c13b1 : (t291 != 0) = false := bne_eq_false_iff_eq.mpr c13
          clear c13
          obtain rfl := Option.some.inj H
          have p289 : 0 ≤ (a2 : Int) := qD
          have q289 : a2 < (l1.length : Int) := qD
          obtain ⟨ad289, e289, hx289_0, hx289_1⟩ := at_T52 HR1.out a2 p289 q289
          cases e289
          replace p289 := eq_true p289
          replace q289 := eq_true q289
          go_enter Try.func37, Try.ntmps37
          go_wp2_with (first | ((with_reducible refine gate_dst (N := 9) rfl ?_); refine box_event ?hg (N := 9) ?hd (cs := #[.int .i64 0, .int .u64 0]) (t := 52) ?hr ?_; (case hd => rfl); (case hg => rfl); (case hr => first | (go_simp; done) | (go_simp; rfl)); intro gb290 hg w14 hbox hb; have n0_ := Aside0.mk (below_step (qB) hb); have n1_ := Aside0.mk (hbox); have n2_ := Aside0.mk ((by rw [hg]; exact (below_size (qB)) : w.heap.size ≤ gb290)); have n3_ := Aside0.mk ((by rw [hg]; exact (below_size (qB)) : w.heap.size ≤ gb290)); clear HB; have HB := n0_; have BK290 := n1_; have GW290 := n2_; have GE290 := n3_; clear n0_ n1_ n2_ n3_; clear hb hbox hg; have hcz15_0 : w14.cell? ⟨gb290, 0, none⟩ = some (.int .i64 0) := (blk_cell BK290.out 0).trans rfl; have hcz15_1 : w14.cell? ⟨gb290, 1, none⟩ = some (.int .u64 0) := (blk_cell BK290.out 1).trans rfl; have hfz15_0 := blk_frozen BK290.out 0; have hfz15_1 := blk_frozen BK290.out 1) | ((with_reducible refine gate_callee (f := 49) rfl ?_); refine goesL_ (some 20) rfl rfl Try.func49 (by kernel_rfl) rfl #[.int .i64 ((rd_T52 l1 a2).f0)] rfl qG ?_; (with_reducible refine (spec_l2Need.calls k ((rd_T52 l1 a2).f0) t291 t292 t293 _ A7.out).mono ?_); rintro e w' ⟨rfl, ⟨nd, rfl⟩⟩; refine ⟨_, rfl, ?_⟩))
          go_ret
          exact ⟨qE, qB⟩
        · rw [if_neg c13] at H
          have c13b0 : (t291 == 0) = false := beq_eq_false_iff_ne.mpr c13
          have c13b1 : (t291 != 0) = true := bne_iff_ne.mpr c13
          by_cases c16 : ((rd_T52 l1 a2).f0) = 13
          · rw [if_pos c16] at H
            have c16b0 : (((rd_T52 l1 a2).f0) == 13) = true := beq_iff_eq.mpr c16
            have c16b1 : (((rd_T52 l1 a2).f0) != 13) = false := bne_eq_false_iff_eq.mpr c16
            clear c16
            replace H := Option.bind_eq_some_iff.mp H
            obtain ⟨t295, A170, H⟩ := H
            replace H : ((spec_l1Cut.f k a0 (Go.bits .xor .u64 18446744073709551615 t295)).bind fun t296 => (some t296)) = some r := H
            have A17 := Aside0.mk A170
            clear A170
            replace H := Option.bind_eq_some_iff.mp H
            obtain ⟨t296, A180, H⟩ := H
            replace H : (some t296) = some r := H
            have A18 := Aside0.mk A180
            clear A180
            obtain rfl := Option.some.inj H
            have p289 : 0 ≤ (a2 : Int) := qD
            have q289 : a2 < (l1.length : Int) := qD
            obtain ⟨ad289, e289, hx289_0, hx289_1⟩ := at_T52 HR1.out a2 p289 q289
            cases e289
            replace p289 := eq_true p289
            replace q289 := eq_true q289
            go_enter Try.func37, Try.ntmps37
            go_wp2_with (first | ((with_reducible refine gate_dst (N := 9) rfl ?_); refine box_event ?hg (N := 9) ?hd (cs := #[.int .i64 0, .int .u64 0]) (t := 52) ?hr ?_; (case hd => rfl); (case hg => rfl); (case hr => first | (go_simp; done) | (go_simp; rfl)); intro gb290 hg w19 hbox hb; have n0_ := Aside0.mk (below_step (qB) hb); have n1_ := Aside0.mk (hbox); have n2_ := Aside0.mk ((by rw [hg]; exact (below_size (qB)) : w.heap.size ≤ gb290)); have n3_ := Aside0.mk ((by rw [hg]; exact (below_size (qB)) : w.heap.size ≤ gb290)); clear HB; have HB := n0_; have BK290 := n1_; have GW290 := n2_; have GE290 := n3_; clear n0_ n1_ n2_ n3_; clear hb hbox hg; have hcz20_0 : w19.cell? ⟨gb290, 0, none⟩ = some (.int .i64 0) := (blk_cell BK290.out 0).trans rfl; have hcz20_1 : w19.cell? ⟨gb290, 1, none⟩ = some (.int .u64 0) := (blk_cell BK290.out 1).trans rfl; have hfz20_0 := blk_frozen BK290.out 0; have hfz20_1 := blk_frozen BK290.out 1) | ((with_reducible refine gate_callee (f := 49) rfl ?_); refine goesL_ (some 20) rfl rfl Try.func49 (by kernel_rfl) rfl #[.int .i64 ((rd_T52 l1 a2).f0)] rfl qG ?_; (with_reducible refine (spec_l2Need.calls k ((rd_T52 l1 a2).f0) t291 t292 t293 _ A7.out).mono ?_); rintro e w' ⟨rfl, ⟨nd, rfl⟩⟩; refine ⟨_, rfl, ?_⟩) | ((with_reducible refine gate_callee (f := 37) rfl ?_); refine goesL_ (some 48) rfl rfl Try.func37 (by kernel_rfl) rfl #[.int .i64 a0, .slice (some ad289) l1.length c1, .int .i64 (wrap64 (a2 - 1)), .slice A3 l3.length c3] rfl qG ?_; (with_reducible refine (ih k (by omega) a0 _ _ l1 (wrap64 (a2 - 1)) _ _ l3 t295 _ ?side1 ?side2 ?side3 ?side4 A17.out).mono ?_); (case side1 => exact Kd.C_below HR1.out (qB)); (case side2 => exact HC1.out); (case side3 => exact Kd.C_below HR3.out (qB)); (case side4 => exact HC3.out); rintro e w21 ⟨rfl, hb⟩; refine ⟨_, rfl, ?_⟩; have n0_ := Aside0.mk (blk_below (g := gb290) (o := .cells #[.int .i64 ((rd_T52 l1 a2).f0), .int .u64 ((rd_T52 l1 a2).f1)] 52 (0, 0)) (by (with_reducible repeat (first | refine blk_drewN ?_ _ | refine blk_drew ?_ | refine blk_alloc ?_ _)); refine blk_put (cs := #[.int .i64 ((rd_T52 l1 a2).f0), .int .u64 0]) ?_ 1 _ rfl; (with_reducible repeat (first | refine blk_drewN ?_ _ | refine blk_drew ?_ | refine blk_alloc ?_ _)); refine blk_put (cs := #[.int .i64 0, .int .u64 0]) ?_ 0 _ rfl; (with_reducible repeat (first | refine blk_drewN ?_ _ | refine blk_drew ?_ | refine blk_alloc ?_ _)); exact BK290.out) hb); have n1_ := Aside0.mk (below_step (qB) hb); clear BK290; clear HB; have BK290 := n0_; have HB := n1_; clear n0_ n1_; (try clear hb); (try clear hb2); (try clear hk); (try clear hi)) | ((with_reducible refine gate_callee (f := 43) rfl ?_); refine goesL_ (some 50) rfl rfl Try.func43 (by kernel_rfl) rfl #[.int .i64 a0, .int .u64 (Go.bits .xor .u64 18446744073709551615 t295)] rfl qG ?_; (with_reducible refine (spec_l1Cut.calls k a0 (Go.bits .xor .u64 18446744073709551615 t295) t296 _ A18.out).mono ?_); rintro e w' ⟨rfl, ⟨nd, rfl⟩⟩; refine ⟨_, rfl, ?_⟩))
            go_ret
            exact ⟨qE, qB⟩
          · rw [if_neg c16] at H
            have c16b0 : (((rd_T52 l1 a2).f0) == 13) = false := beq_eq_false_iff_ne.mpr c16
            have c16b1 : (((rd_T52 l1 a2).f0) != 13) = true := bne_iff_ne.mpr c16
            by_cases c22 : ((rd_T52 l1 a2).f0) = 19
            · rw [if_pos c22] at H
              have c22b0 : (((rd_T52 l1 a2).f0) == 19) = true := beq_iff_eq.mpr c22
              have c22b1 : (((rd_T52 l1 a2).f0) != 19) = false := bne_eq_false_iff_eq.mpr c22
              clear c22
              replace H := Option.bind_eq_some_iff.mp H
              obtain ⟨t297, A230, H⟩ := H
              replace H : (some (IntKind.u64.wrap (1 - t297))) = some r := H
              have A23 := Aside0.mk A230
              clear A230
              obtain rfl := Option.some.inj H
              have p289 : 0 ≤ (a2 : Int) := qD
              have q289 : a2 < (l1.length : Int) := qD
              obtain ⟨ad289, e289, hx289_0, hx289_1⟩ := at_T52 HR1.out a2 p289 q289
              cases e289
              replace p289 := eq_true p289
              replace q289 := eq_true q289
              go_enter Try.func37, Try.ntmps37
              go_wp2_with (first | ((with_reducible refine gate_dst (N := 9) rfl ?_); refine box_event ?hg (N := 9) ?hd (cs := #[.int .i64 0, .int .u64 0]) (t := 52) ?hr ?_; (case hd => rfl); (case hg => rfl); (case hr => first | (go_simp; done) | (go_simp; rfl)); intro gb290 hg w24 hbox hb; have n0_ := Aside0.mk (below_step (qB) hb); have n1_ := Aside0.mk (hbox); have n2_ := Aside0.mk ((by rw [hg]; exact (below_size (qB)) : w.heap.size ≤ gb290)); have n3_ := Aside0.mk ((by rw [hg]; exact (below_size (qB)) : w.heap.size ≤ gb290)); clear HB; have HB := n0_; have BK290 := n1_; have GW290 := n2_; have GE290 := n3_; clear n0_ n1_ n2_ n3_; clear hb hbox hg; have hcz25_0 : w24.cell? ⟨gb290, 0, none⟩ = some (.int .i64 0) := (blk_cell BK290.out 0).trans rfl; have hcz25_1 : w24.cell? ⟨gb290, 1, none⟩ = some (.int .u64 0) := (blk_cell BK290.out 1).trans rfl; have hfz25_0 := blk_frozen BK290.out 0; have hfz25_1 := blk_frozen BK290.out 1) | ((with_reducible refine gate_callee (f := 49) rfl ?_); refine goesL_ (some 20) rfl rfl Try.func49 (by kernel_rfl) rfl #[.int .i64 ((rd_T52 l1 a2).f0)] rfl qG ?_; (with_reducible refine (spec_l2Need.calls k ((rd_T52 l1 a2).f0) t291 t292 t293 _ A7.out).mono ?_); rintro e w' ⟨rfl, ⟨nd, rfl⟩⟩; refine ⟨_, rfl, ?_⟩) | ((with_reducible refine gate_callee (f := 37) rfl ?_); refine goesL_ (some 60) rfl rfl Try.func37 (by kernel_rfl) rfl #[.int .i64 a0, .slice (some ad289) l1.length c1, .int .i64 (wrap64 (a2 - 1)), .slice A3 l3.length c3] rfl qG ?_; (with_reducible refine (ih k (by omega) a0 _ _ l1 (wrap64 (a2 - 1)) _ _ l3 t297 _ ?side1 ?side2 ?side3 ?side4 A23.out).mono ?_); (case side1 => exact Kd.C_below HR1.out (qB)); (case side2 => exact HC1.out); (case side3 => exact Kd.C_below HR3.out (qB)); (case side4 => exact HC3.out); rintro e w26 ⟨rfl, hb⟩; refine ⟨_, rfl, ?_⟩; have n0_ := Aside0.mk (blk_below (g := gb290) (o := .cells #[.int .i64 ((rd_T52 l1 a2).f0), .int .u64 ((rd_T52 l1 a2).f1)] 52 (0, 0)) (by (with_reducible repeat (first | refine blk_drewN ?_ _ | refine blk_drew ?_ | refine blk_alloc ?_ _)); refine blk_put (cs := #[.int .i64 ((rd_T52 l1 a2).f0), .int .u64 0]) ?_ 1 _ rfl; (with_reducible repeat (first | refine blk_drewN ?_ _ | refine blk_drew ?_ | refine blk_alloc ?_ _)); refine blk_put (cs := #[.int .i64 0, .int .u64 0]) ?_ 0 _ rfl; (with_reducible repeat (first | refine blk_drewN ?_ _ | refine blk_drew ?_ | refine blk_alloc ?_ _)); exact BK290.out) hb); have n1_ := Aside0.mk (below_step (qB) hb); clear BK290; clear HB; have BK290 := n0_; have HB := n1_; clear n0_ n1_; (try clear hb); (try clear hb2); (try clear hk); (try clear hi)))
              go_ret
              exact ⟨qE, qB⟩
            · rw [if_neg c22] at H
              have c22b0 : (((rd_T52 l1 a2).f0) == 19) = false := beq_eq_false_iff_ne.mpr c22
              have c22b1 : (((rd_T52 l1 a2).f0) != 19) = true := bne_iff_ne.mpr c22
              replace H := Option.bind_eq_some_iff.mp H
              obtain ⟨t298, A270, H⟩ := H
              replace H : ((spec_l2Value.f k a0 l1 (wrap64 (t298 - 1)) l3).bind fun t299 => ((spec_l2Value.f k a0 l1 (wrap64 (a2 - 1)) l3).bind fun t300 => ((spec_l2Do.f k a0 ((rd_T52 l1 a2).f0) t299 t300).bind fun t301 => (some t301)))) = some r := H
              have A27 := Aside0.mk A270
              clear A270
              replace H := Option.bind_eq_some_iff.mp H
              obtain ⟨t299, A280, H⟩ := H
              replace H : ((spec_l2Value.f k a0 l1 (wrap64 (a2 - 1)) l3).bind fun t300 => ((spec_l2Do.f k a0 ((rd_T52 l1 a2).f0) t299 t300).bind fun t301 => (some t301))) = some r := H
              have A28 := Aside0.mk A280
              clear A280
              replace H := Option.bind_eq_some_iff.mp H
              obtain ⟨t300, A290, H⟩ := H
              replace H : ((spec_l2Do.f k a0 ((rd_T52 l1 a2).f0) t299 t300).bind fun t301 => (some t301)) = some r := H
              have A29 := Aside0.mk A290
              clear A290
              replace H := Option.bind_eq_some_iff.mp H
              obtain ⟨t301, A300, H⟩ := H
              replace H : (some t301) = some r := H
              have A30 := Aside0.mk A300
              clear A300
              obtain rfl := Option.some.inj H
              have p289 : 0 ≤ (a2 : Int) := qD
              have q289 : a2 < (l1.length : Int) := qD
              obtain ⟨ad289, e289, hx289_0, hx289_1⟩ := at_T52 HR1.out a2 p289 q289
              cases e289
              replace p289 := eq_true p289
              replace q289 := eq_true q289
              go_enter Try.func37, Try.ntmps37
              try go_wp2_with (first | ((with_reducible refine gate_dst (N := 9) rfl ?_); refine box_event ?hg (N := 9) ?hd (cs := #[.int .i64 0, .int .u64 0]) (t := 52) ?hr ?_; (case hd => rfl); (case hg => rfl); (case hr => first | (go_simp; done) | (go_simp; rfl)); intro gb290 hg w31 hbox hb; have n0_ := Aside0.mk (below_step (qB) hb); have n1_ := Aside0.mk (hbox); have n2_ := Aside0.mk ((by rw [hg]; exact (below_size (qB)) : w.heap.size ≤ gb290)); have n3_ := Aside0.mk ((by rw [hg]; exact (below_size (qB)) : w.heap.size ≤ gb290)); clear HB; have HB := n0_; have BK290 := n1_; have GW290 := n2_; have GE290 := n3_; clear n0_ n1_ n2_ n3_; clear hb hbox hg; have hcz32_0 : w31.cell? ⟨gb290, 0, none⟩ = some (.int .i64 0) := (blk_cell BK290.out 0).trans rfl; have hcz32_1 : w31.cell? ⟨gb290, 1, none⟩ = some (.int .u64 0) := (blk_cell BK290.out 1).trans rfl; have hfz32_0 := blk_frozen BK290.out 0; have hfz32_1 := blk_frozen BK290.out 1) | ((with_reducible refine gate_callee (f := 49) rfl ?_); refine goesL_ (some 20) rfl rfl Try.func49 (by kernel_rfl) rfl #[.int .i64 ((rd_T52 l1 a2).f0)] rfl qG ?_; (with_reducible refine (spec_l2Need.calls k ((rd_T52 l1 a2).f0) t291 t292 t293 _ A7.out).mono ?_); rintro e w' ⟨rfl, ⟨nd, rfl⟩⟩; refine ⟨_, rfl, ?_⟩))
              have n0_ : Aside0 (((w31.setCell ⟨gb290, 0, none⟩ (.int .i64 ((rd_T52 l1 a2).f0))).setCell ⟨gb290, 1, none⟩ (.int .u64 ((rd_T52 l1 a2).f1))).heap[gb290]? = some (.cells #[.int .i64 ((rd_T52 l1 a2).f0), .int .u64 ((rd_T52 l1 a2).f1)] 52 (0, 0))) := ⟨by (with_reducible repeat (first | refine blk_drewN ?_ _ | refine blk_drew ?_ | refine blk_alloc ?_ _)); refine blk_put (cs := #[.int .i64 ((rd_T52 l1 a2).f0), .int .u64 0]) ?_ 1 _ rfl; (with_reducible repeat (first | refine blk_drewN ?_ _ | refine blk_drew ?_ | refine blk_alloc ?_ _)); refine blk_put (cs := #[.int .i64 0, .int .u64 0]) ?_ 0 _ rfl; (with_reducible repeat (first | refine blk_drewN ?_ _ | refine blk_drew ?_ | refine blk_alloc ?_ _)); exact BK290.out⟩
              have n1_ : Aside0 (Below w.heap.size w ((w31.setCell ⟨gb290, 0, none⟩ (.int .i64 ((rd_T52 l1 a2).f0))).setCell ⟨gb290, 1, none⟩ (.int .u64 ((rd_T52 l1 a2).f1)))) := ⟨qB⟩
              (try clear BK290)
              (try clear HB)
              generalize ((w31.setCell ⟨gb290, 0, none⟩ (.int .i64 ((rd_T52 l1 a2).f0))).setCell ⟨gb290, 1, none⟩ (.int .u64 ((rd_T52 l1 a2).f1))) = w33 at n0_ n1_ ⊢
              have BK290 := n0_
              have HB := n1_
              clear n0_ n1_
              (try (rw [drewN_self w33]; generalize hq_ : World.drewN w33 _ = w33; have n0_ : Aside0 (w33.heap[gb290]? = some (.cells #[.int .i64 ((rd_T52 l1 a2).f0), .int .u64 ((rd_T52 l1 a2).f1)] 52 (0, 0))) := ⟨by rw [← hq_]; exact (qK BK290.out)⟩; have n1_ : Aside0 (Below w.heap.size w w33) := ⟨by rw [← hq_]; exact (qB)⟩; clear BK290 HB hq_; have BK290 := n0_; have HB := n1_; clear n0_ n1_))
              have n0_ := Aside0.mk (blk_drew BK290.out)
              have n1_ := Aside0.mk (below_drew1 HB.out)
              clear BK290
              clear HB
              have BK290 := n0_
              have HB := n1_
              clear n0_ n1_
              refine start_ (n := 20) (S := fun w' => w'.cell? ⟨gb290, 0, none⟩ = some (.int .i64 ((rd_T52 l1 a2).f0)) ∧ w'.cell? ⟨gb290, 1, none⟩ = some (.int .u64 ((rd_T52 l1 a2).f1))) (ds := []) #[false, false, false, false, false, false, false, false, false, false, false, false, false, false, false, false, false, false, false, false] (by kernel_rfl) rfl rfl ⟨(blk_cell BK290.out 0).trans rfl, (blk_cell BK290.out 1).trans rfl⟩ (fun hHeld => ?_); refine with_tabW spec_l2Value.tab11 spec_l2Value.bits11 (fun HT_ HW_ => ?_)
              generalize w33.drew = w34 at BK290 HB hHeld ⊢
              refine pure_ (i := 0) (N := some 62) (v := ?_) (a' := ?_) #[true, false, false, false, false, false, false, false, false, false, false, false, false, false, false, false, false, false, false, false] rfl rfl (any_of HT_.out (by kernel_rfl)) (fun _ _ _ h => h) (Or.inl ⟨by rfl, ?_⟩) ?_ ?_
              rotate_left
              · intro w'
                go_simp
                with_reducible rfl
              rotate_left
              · simp only [Act.put, List.setIfInBounds_toArray, List.set_cons_zero, List.set_cons_succ, i64_w, i32_w]
                rfl
              refine pure_ (i := 1) (N := some 63) (v := ?_) (a' := ?_) #[true, true, false, false, false, false, false, false, false, false, false, false, false, false, false, false, false, false, false, false] rfl rfl (any_of HT_.out (by kernel_rfl)) (fun _ _ _ h => h) (Or.inl ⟨by rfl, ?_⟩) ?_ ?_
              rotate_left
              · intro w'
                go_simp
                with_reducible rfl
              rotate_left
              · simp only [Act.put, List.setIfInBounds_toArray, List.set_cons_zero, List.set_cons_succ, i64_w, i32_w]
                rfl
              refine pure_ (i := 3) (N := some 65) (v := ?_) (a' := ?_) #[true, true, false, true, false, false, false, false, false, false, false, false, false, false, false, false, false, false, false, false] rfl rfl (any_of HT_.out (by kernel_rfl)) (fun _ _ _ h => h) (Or.inl ⟨by rfl, ?_⟩) ?_ ?_
              rotate_left
              · intro w'
                go_simp
                with_reducible rfl
              rotate_left
              · simp only [Act.put, List.setIfInBounds_toArray, List.set_cons_zero, List.set_cons_succ, i64_w, i32_w]
                rfl
              refine pure_ (i := 4) (N := some 66) (v := ?_) (a' := ?_) #[true, true, false, true, true, false, false, false, false, false, false, false, false, false, false, false, false, false, false, false] rfl rfl (any_of HT_.out (by kernel_rfl)) (fun _ _ _ h => h) (Or.inl ⟨by rfl, ?_⟩) ?_ ?_
              rotate_left
              · intro w'
                go_simp
                with_reducible rfl
              rotate_left
              · simp only [Act.put, List.setIfInBounds_toArray, List.set_cons_zero, List.set_cons_succ, i64_w, i32_w]
                rfl
              refine pure_ (i := 5) (N := some 67) (v := ?_) (a' := ?_) #[true, true, false, true, true, true, false, false, false, false, false, false, false, false, false, false, false, false, false, false] rfl rfl (any_of HT_.out (by kernel_rfl)) (fun _ _ _ h => h) (Or.inl ⟨by rfl, ?_⟩) ?_ ?_
              rotate_left
              · intro w'
                go_simp
                with_reducible rfl
              rotate_left
              · simp only [Act.put, List.setIfInBounds_toArray, List.set_cons_zero, List.set_cons_succ, i64_w, i32_w]
                rfl
              refine pure_ (i := 6) (N := some 68) (v := ?_) (a' := ?_) #[true, true, false, true, true, true, true, false, false, false, false, false, false, false, false, false, false, false, false, false] rfl rfl (any_of HT_.out (by kernel_rfl)) (fun _ _ _ h => h) (Or.inl ⟨by rfl, ?_⟩) ?_ ?_
              rotate_left
              · intro w'
                go_simp
                with_reducible rfl
              rotate_left
              · simp only [Act.put, List.setIfInBounds_toArray, List.set_cons_zero, List.set_cons_succ, i64_w, i32_w]
                rfl
              refine pure_ (i := 7) (N := some 69) (v := ?_) (a' := ?_) #[true, true, false, true, true, true, true, true, false, false, false, false, false, false, false, false, false, false, false, false] rfl rfl (any_of HT_.out (by kernel_rfl)) (fun _ _ _ h => h) (Or.inl ⟨by rfl, ?_⟩) ?_ ?_
              rotate_left
              · intro w'
                go_simp
                with_reducible rfl
              rotate_left
              · simp only [Act.put, List.setIfInBounds_toArray, List.set_cons_zero, List.set_cons_succ, i64_w, i32_w]
                rfl
              refine pure_ (i := 10) (N := some 72) (v := ?_) (a' := ?_) #[true, true, false, true, true, true, true, true, false, false, true, false, false, false, false, false, false, false, false, false] rfl rfl (any_of HT_.out (by kernel_rfl)) (fun _ _ _ h => h) (Or.inl ⟨by rfl, ?_⟩) ?_ ?_
              rotate_left
              · intro w'
                go_simp
                with_reducible rfl
              rotate_left
              · simp only [Act.put, List.setIfInBounds_toArray, List.set_cons_zero, List.set_cons_succ, i64_w, i32_w]
                rfl
              refine pure_ (i := 12) (N := some 74) (v := ?_) (a' := ?_) #[true, true, false, true, true, true, true, true, false, false, true, false, true, false, false, false, false, false, false, false] rfl rfl (any_of HT_.out (by kernel_rfl)) (fun _ _ _ h => h) (Or.inl ⟨by rfl, ?_⟩) ?_ ?_
              rotate_left
              · intro w'
                go_simp
                with_reducible rfl
              rotate_left
              · simp only [Act.put, List.setIfInBounds_toArray, List.set_cons_zero, List.set_cons_succ, i64_w, i32_w]
                rfl
              refine pure_ (i := 13) (N := some 75) (v := ?_) (a' := ?_) #[true, true, false, true, true, true, true, true, false, false, true, false, true, true, false, false, false, false, false, false] rfl rfl (any_of HT_.out (by kernel_rfl)) (fun _ _ _ h => h) (Or.inl ⟨by rfl, ?_⟩) ?_ ?_
              rotate_left
              · intro w'
                go_simp
                with_reducible rfl
              rotate_left
              · simp only [Act.put, List.setIfInBounds_toArray, List.set_cons_zero, List.set_cons_succ, i64_w, i32_w]
                rfl
              refine pure_ (i := 14) (N := some 76) (v := ?_) (a' := ?_) #[true, true, false, true, true, true, true, true, false, false, true, false, true, true, true, false, false, false, false, false] rfl rfl (any_of HT_.out (by kernel_rfl)) (fun _ _ _ h => h) (Or.inl ⟨by rfl, ?_⟩) ?_ ?_
              rotate_left
              · intro w'
                go_simp
                with_reducible rfl
              rotate_left
              · simp only [Act.put, List.setIfInBounds_toArray, List.set_cons_zero, List.set_cons_succ, i64_w, i32_w]
                rfl
              refine pure_ (i := 15) (N := some 77) (v := ?_) (a' := ?_) #[true, true, false, true, true, true, true, true, false, false, true, false, true, true, true, true, false, false, false, false] rfl rfl (any_of HT_.out (by kernel_rfl)) (fun _ _ _ h => h) (Or.inl ⟨by rfl, ?_⟩) ?_ ?_
              rotate_left
              · intro w'
                go_simp
                with_reducible rfl
              rotate_left
              · simp only [Act.put, List.setIfInBounds_toArray, List.set_cons_zero, List.set_cons_succ, i64_w, i32_w]
                rfl
              refine pure_ (i := 16) (N := some 78) (v := ?_) (a' := ?_) #[true, true, false, true, true, true, true, true, false, false, true, false, true, true, true, true, true, false, false, false] rfl rfl (any_of HT_.out (by kernel_rfl)) (fun _ _ _ h => h) (Or.inl ⟨by rfl, ?_⟩) ?_ ?_
              rotate_left
              · intro w'
                go_simp
                with_reducible rfl
              rotate_left
              · simp only [Act.put, List.setIfInBounds_toArray, List.set_cons_zero, List.set_cons_succ, i64_w, i32_w]
                rfl
              refine take_ (i := 2) (N := some 64) (v := ?_) (a' := ?_) #[true, true, true, true, true, true, true, true, false, false, true, false, true, true, true, true, true, false, false, false] rfl rfl (take_ofW HT_.out HW_.out (by kernel_rfl)) (fun _ _ _ h => h) (Or.inl ⟨by rfl, ?_⟩) hHeld ?_ ?_
              rotate_left
              · rintro w' ⟨s0, s1⟩
                go_simp
                with_reducible rfl
              rotate_left
              · simp only [Act.put, List.setIfInBounds_toArray, List.set_cons_zero, List.set_cons_succ, i64_w, i32_w]
                rfl
              refine one_ (i := 8) (N := some 70) #[true, true, true, true, true, true, true, true, true, false, true, false, true, true, true, true, true, false, false, false] rfl rfl (one_of HT_.out (by kernel_rfl)) (by decide) (fun K hK => ?_)
              refine goes_ Try.func61 (by kernel_rfl) rfl #[.slice (some ad289) l1.length c1, .int .i64 (wrap64 (a2 - 1))] (by rfl) rfl rfl qG ?_
              with_reducible refine (spec_l2From.calls k _ _ l1 (wrap64 (a2 - 1)) t298 _ ?side1 ?side2 A27.out).mono ?_
              (case side1 => exact qC (Kd.C_below HR1.out HB.out))
              (case side2 => exact HC1.out)
              rintro e w' ⟨rfl, ⟨nd, rfl⟩⟩
              refine ⟨_, rfl, ?_⟩
              refine hK.out _ _ ⟨(blk_cell BK290.out 0).trans rfl, (blk_cell BK290.out 1).trans rfl⟩ (fun hHeld => ?_)
              clear hK K
              refine norm_ (a' := ?_) ?_ ?_
              rotate_left
              · show Act.put _ (some 70) _ = _
                simp only [Act.put, List.setIfInBounds_toArray, List.set_cons_zero, List.set_cons_succ, i64_w, i32_w]
                rfl
              refine pure_ (i := 9) (N := some 71) (v := ?_) (a' := ?_) #[true, true, true, true, true, true, true, true, true, true, true, false, true, true, true, true, true, false, false, false] rfl rfl (any_of HT_.out (by kernel_rfl)) (fun _ _ _ h => h) (Or.inl ⟨by rfl, ?_⟩) ?_ ?_
              rotate_left
              · intro w'
                go_simp
                with_reducible rfl
              rotate_left
              · simp only [Act.put, List.setIfInBounds_toArray, List.set_cons_zero, List.set_cons_succ, i64_w, i32_w]
                rfl
              refine one_ (i := 11) (N := some 73) #[true, true, true, true, true, true, true, true, true, true, true, true, true, true, true, true, true, false, false, false] rfl rfl (one_of HT_.out (by kernel_rfl)) (by decide) (fun K hK => ?_)
              refine goes_ Try.func37 (by kernel_rfl) rfl #[.int .i64 a0, .slice (some ad289) l1.length c1, .int .i64 (wrap64 (t298 - 1)), .slice A3 l3.length c3] (by rfl) rfl rfl qG ?_
              with_reducible refine (ih k (by omega) a0 _ _ l1 (wrap64 (t298 - 1)) _ _ l3 t299 _ ?side1 ?side2 ?side3 ?side4 A28.out).mono ?_
              (case side1 => repeat (first | exact (Kd.C_below HR1.out (qB)) | (with_reducible refine Kd.C_alloc ?_ _) | (with_reducible refine Kd.C_drewN ?_ _) | (with_reducible refine Kd.C_drew ?_)))
              (case side2 => exact HC1.out)
              (case side3 => repeat (first | exact (Kd.C_below HR3.out (qB)) | (with_reducible refine Kd.C_alloc ?_ _) | (with_reducible refine Kd.C_drewN ?_ _) | (with_reducible refine Kd.C_drew ?_)))
              (case side4 => exact HC3.out)
              rintro e w35 ⟨rfl, hb⟩
              refine ⟨_, rfl, ?_⟩
              have n0_ := Aside0.mk (blk_below (g := gb290) (o := .cells #[.int .i64 ((rd_T52 l1 a2).f0), .int .u64 ((rd_T52 l1 a2).f1)] 52 (0, 0)) (qK BK290.out) hb)
              have n1_ := Aside0.mk (below_step (qB) hb)
              clear BK290
              clear HB
              have BK290 := n0_
              have HB := n1_
              clear n0_ n1_
              (try clear hb)
              (try clear hb2)
              (try clear hk)
              (try clear hi)
              refine hK.out _ _ ⟨(blk_cell BK290.out 0).trans rfl, (blk_cell BK290.out 1).trans rfl⟩ (fun hHeld => ?_)
              clear hK K
              refine norm_ (a' := ?_) ?_ ?_
              rotate_left
              · show Act.put _ (some 73) _ = _
                simp only [Act.put, List.setIfInBounds_toArray, List.set_cons_zero, List.set_cons_succ, i64_w, i32_w]
                rfl
              refine one_ (i := 17) (N := some 79) #[true, true, true, true, true, true, true, true, true, true, true, true, true, true, true, true, true, true, false, false] rfl rfl (one_of HT_.out (by kernel_rfl)) (by decide) (fun K hK => ?_)
              refine goes_ Try.func37 (by kernel_rfl) rfl #[.int .i64 a0, .slice (some ad289) l1.length c1, .int .i64 (wrap64 (a2 - 1)), .slice A3 l3.length c3] (by rfl) rfl rfl qG ?_
              with_reducible refine (ih k (by omega) a0 _ _ l1 (wrap64 (a2 - 1)) _ _ l3 t300 _ ?side1 ?side2 ?side3 ?side4 A29.out).mono ?_
              (case side1 => exact qC (Kd.C_below HR1.out HB.out))
              (case side2 => exact HC1.out)
              (case side3 => exact qC (Kd.C_below HR3.out HB.out))
              (case side4 => exact HC3.out)
              rintro e w36 ⟨rfl, hb⟩
              refine ⟨_, rfl, ?_⟩
              have n0_ := Aside0.mk (blk_below (g := gb290) (o := .cells #[.int .i64 ((rd_T52 l1 a2).f0), .int .u64 ((rd_T52 l1 a2).f1)] 52 (0, 0)) (qK BK290.out) hb)
              have n1_ := Aside0.mk (below_step (qB) hb)
              clear BK290
              clear HB
              have BK290 := n0_
              have HB := n1_
              clear n0_ n1_
              (try clear hb)
              (try clear hb2)
              (try clear hk)
              (try clear hi)
              refine hK.out _ _ ⟨(blk_cell BK290.out 0).trans rfl, (blk_cell BK290.out 1).trans rfl⟩ (fun hHeld => ?_)
              clear hK K
              refine norm_ (a' := ?_) ?_ ?_
              rotate_left
              · show Act.put _ (some 79) _ = _
                simp only [Act.put, List.setIfInBounds_toArray, List.set_cons_zero, List.set_cons_succ, i64_w, i32_w]
                rfl
              refine one_ (i := 18) (N := some 80) #[true, true, true, true, true, true, true, true, true, true, true, true, true, true, true, true, true, true, true, false] rfl rfl (one_of HT_.out (by kernel_rfl)) (by decide) (fun K hK => ?_)
              refine goes_ Try.func60 (by kernel_rfl) rfl #[.int .i64 a0, .int .i64 ((rd_T52 l1 a2).f0), .int .u64 t299, .int .u64 t300] (by rfl) rfl rfl qG ?_
              with_reducible refine (spec_l2Do.calls k a0 ((rd_T52 l1 a2).f0) t299 t300 t301 _ A30.out).mono ?_
              rintro e w' ⟨rfl, ⟨nd, rfl⟩⟩
              refine ⟨_, rfl, ?_⟩
              refine hK.out _ _ ⟨(blk_cell BK290.out 0).trans rfl, (blk_cell BK290.out 1).trans rfl⟩ (fun hHeld => ?_)
              clear hK K
              refine norm_ (a' := ?_) ?_ ?_
              rotate_left
              · show Act.put _ (some 80) _ = _
                simp only [Act.put, List.setIfInBounds_toArray, List.set_cons_zero, List.set_cons_succ, i64_w, i32_w]
                rfl
              refine pure_ (i := 19) (N := some 8) (v := ?_) (a' := ?_) #[true, true, true, true, true, true, true, true, true, true, true, true, true, true, true, true, true, true, true, true] rfl rfl (any_of HT_.out (by kernel_rfl)) (fun _ _ _ h => h) (Or.inl ⟨by rfl, ?_⟩) ?_ ?_
              rotate_left
              · intro w'
                go_simp
                with_reducible rfl
              rotate_left
              · simp only [Act.put, List.setIfInBounds_toArray, List.set_cons_zero, List.set_cons_succ, i64_w, i32_w]
                rfl
              refine done_ (done_of HT_.out (by kernel_rfl)) ?_
              try go_wp2
              go_ret
              exact ⟨qE, qB⟩
    · rw [if_neg c6] at H
      exact absurd H (by simp)
  · rw [if_neg c5] at H
    exact absurd H (by simp)

end Go.Proofs.Ytckdgmbmjfhodaa.X
