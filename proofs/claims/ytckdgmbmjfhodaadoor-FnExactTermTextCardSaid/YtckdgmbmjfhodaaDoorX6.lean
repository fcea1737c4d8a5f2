/- Each Go function as a Lean function, with the proof that the call comes to just its answer; or a law's row out of its pure statement. Conditions: the arguments are of their kinds. Written by this session's program wip/xp/xp.sh. -/
import Derived.Test.YtckdgmbmjfhodaaDoorX0
import Derived.Test.YtckdgmbmjfhodaaDoorX1
import Derived.Test.YtckdgmbmjfhodaaDoorX4
import Derived.Test.YtckdgmbmjfhodaaDoorX5
namespace Go.Proofs.YtckdgmbmjfhodaaDoor.X
open Go.RowKit Go.Proofs.YtckdgmbmjfhodaaDoorW.PrintWords Go.Proofs.YtckdgmbmjfhodaaDoorW.PrintLast Go.Proofs.YtckdgmbmjfhodaaDoorW.PrintMore
attribute [local go_sem] max2_int min2_int max_two min_two max_three min_three max_four min_four   -- for this text's walks alone
set_option linter.unusedVariables false
set_option linter.unusedSimpArgs false

/-! ### spec_l3Text: function 10 -/
mutual
def spec_l3Text.j0 : Nat → List (S34) → Int → Int → Bool → Int → Int → Option (ByteArray)
  | 0, _, _, _, _, _, _ => none
  | k + 1, x0, x1, x6, x28, x143000, x143001 => if x28 = true then (some (⟨#[121, 101, 115]⟩ : ByteArray)) else (if x143000 = 20 then (some (⟨#[110, 111]⟩ : ByteArray)) else (if x6 = 0 then ((spec_l1Num.f k x143001).bind fun t147 => (some t147)) else (if x6 = 1 then ((spec_l3Sign.f x143000).bind fun t148 => ((spec_l3Text.f k x0 (wrap64 (x1 - 1))).bind fun t149 => (if t148.size + t149.size ≤ 9223372036854775807 then (some (t148 ++ t149)) else (none)))) else ((spec_l2From.f k x0 (wrap64 (x1 - 1))).bind fun t150 => ((spec_l3Text.f k x0 (wrap64 (t150 - 1))).bind fun t151 => (if 1 + t151.size ≤ 9223372036854775807 then ((spec_l3Sign.f x143000).bind fun t152 => (if 1 + t151.size + t152.size ≤ 9223372036854775807 then ((spec_l3Text.f k x0 (wrap64 (x1 - 1))).bind fun t153 => (if 1 + t151.size + t152.size + t153.size ≤ 9223372036854775807 then (if 1 + t151.size + t152.size + t153.size + 1 ≤ 9223372036854775807 then (some (((((⟨#[40]⟩ : ByteArray) ++ t151) ++ t152) ++ t153) ++ (⟨#[41]⟩ : ByteArray))) else (none)) else (none))) else (none))) else (none)))))))
def spec_l3Text.f : Nat → List (S34) → Int → Option (ByteArray)
  | 0, _, _ => none
  | k + 1, l0, a1 => if 0 ≤ a1 then (if a1 < (l0.length : Int) then ((spec_l2Need.f k ((rd_T34 l0 a1).f0)).bind fun bt143 => (if ((rd_T34 l0 a1).f0) = 2 then ((spec_l3Name.f (wrap64 ((rd_T34 l0 a1).f1))).bind fun t146 => (some t146)) else (if ((rd_T34 l0 a1).f0) = 20 then (spec_l3Text.j0 k l0 a1 bt143.1 (((rd_T34 l0 a1).f1) == 1) ((rd_T34 l0 a1).f0) ((rd_T34 l0 a1).f1)) else (spec_l3Text.j0 k l0 a1 bt143.1 false ((rd_T34 l0 a1).f0) ((rd_T34 l0 a1).f1))))) else (none)) else (none)
end
theorem spec_l3Text.mono_l : ∀ k, (∀ y0 y1, LeO (spec_l3Text.f k y0 y1) (spec_l3Text.f (k + 1) y0 y1)) ∧ (∀ y0 y1 y2 y3 y4 y5, LeO (spec_l3Text.j0 k y0 y1 y2 y3 y4 y5) (spec_l3Text.j0 (k + 1) y0 y1 y2 y3 y4 y5))
  | 0 => ⟨fun _ _ r h => by simp [spec_l3Text.f] at h, fun _ _ _ _ _ _ r h => by simp [spec_l3Text.j0] at h⟩
  | k + 1 => by
    obtain ⟨ih0, ih1⟩ := spec_l3Text.mono_l k
    refine ⟨?_, ?_⟩
    · intro y0 y1
      unfold spec_l3Text.f
      repeat' first
      | (with_reducible exact ih0 _ _)
      | (with_reducible exact ih1 _ _ _ _ _ _)
      | (with_reducible exact spec_l1Num.mono _ _)
      | (with_reducible exact spec_l2From.mono _ _ _)
      | (with_reducible exact spec_l2Need.mono _ _)
      | (with_reducible exact LeO.refl _)
      | (with_reducible exact LeO.none _)
      | (with_reducible refine LeO.ite ?_ ?_)
      | (with_reducible refine LeO.bind ?_ (fun _ => ?_))
      | exact ih0 _ _
      | exact ih1 _ _ _ _ _ _
      | exact spec_l1Num.mono _ _
      | exact spec_l2From.mono _ _ _
      | exact spec_l2Need.mono _ _
      | exact LeO.none _
      | refine LeO.ite ?_ ?_
      | refine LeO.bind ?_ (fun _ => ?_)
    · intro y0 y1 y2 y3 y4 y5
      unfold spec_l3Text.j0
      repeat' first
      | (with_reducible exact ih0 _ _)
      | (with_reducible exact ih1 _ _ _ _ _ _)
      | (with_reducible exact spec_l1Num.mono _ _)
      | (with_reducible exact spec_l2From.mono _ _ _)
      | (with_reducible exact spec_l2Need.mono _ _)
      | (with_reducible exact LeO.refl _)
      | (with_reducible exact LeO.none _)
      | (with_reducible refine LeO.ite ?_ ?_)
      | (with_reducible refine LeO.bind ?_ (fun _ => ?_))
      | exact ih0 _ _
      | exact ih1 _ _ _ _ _ _
      | exact spec_l1Num.mono _ _
      | exact spec_l2From.mono _ _ _
      | exact spec_l2Need.mono _ _
      | exact LeO.none _
      | refine LeO.ite ?_ ?_
      | refine LeO.bind ?_ (fun _ => ?_)
theorem spec_l3Text.mono : ∀ a0 a1 k, LeO (spec_l3Text.f k a0 a1) (spec_l3Text.f (k + 1) a0 a1) := by
  intro a0 a1 k
  obtain ⟨ih0, ih1⟩ := spec_l3Text.mono_l k
  exact ih0 a0 a1
def spec_l3Text.T13 : Bool × List (List Nat × List Nat) := (true, [([], []), ([], []), ([], []), ([2], [2]), ([1, 3], [1, 3]), ([4], [4]), ([0, 5, 4], [0, 5]), ([6], [6]), ([], []), ([8], [8]), ([9, 6], [9]), ([7, 10], [7, 10]), ([], []), ([], []), ([13], [13]), ([12, 14, 10], [12, 14]), ([11, 15], [11, 15]), ([16], [16]), ([17, 15, 0, 1, 2, 3, 4, 5, 6, 7, 8, 9, 10, 11, 12, 13, 14, 15, 16, 17], [17])])
def spec_l3Text.B13 : List Nat := [0, 0, 0, 4, 14, 30, 63, 127, 0, 256, 895, 2047, 0, 0, 8192, 30591, 65535, 131071, 262143]
theorem spec_l3Text.tab13 : rtab .any (opsOf Tryd.f10 13) = spec_l3Text.T13 := by kernel_rfl
theorem spec_l3Text.bits13 : waitsOk spec_l3Text.T13.2 spec_l3Text.B13 = true := by kernel_rfl
set_option maxHeartbeats 8000000 in
set_option maxRecDepth 100000 in
theorem spec_l3Text.calls (k : Nat) : ∀ (A0 : Option Addr) (c0 : Nat) (l0 : List (S34)) (a1 : Int) (r : ByteArray) (w : World) (hr0 : Kd.C k34 w A0 l0.length l0) (hc0 : l0.length ≤ c0) (h : spec_l3Text.f k l0 a1 = some r),
    Calls Tryd.prog 10 #[.slice A0 l0.length c0, .int .i64 a1] w fun e w' => e = .returned (.string r) ∧ Below w.heap.size w w' := by
  induction k using Nat.strongRecOn with
  | _ k ih =>
  intro A0 c0 l0 a1 r w hr0 hc0 h
  cases k with
  | zero => exact absurd h (by simp [spec_l3Text.f])
  | succ k =>
  simp only [spec_l3Text.f] at h
  have hu34 := Tryd.underlying34
  have HR0 := Aside0.mk hr0
  have HC0 := Aside0.mk hc0
  clear hr0 hc0
  have HB := Aside0.mk (Below.refl w.heap.size w)
  have H : (if 0 ≤ a1 then (if a1 < (l0.length : Int) then ((spec_l2Need.f k ((rd_T34 l0 a1).f0)).bind fun bt143 => (if ((rd_T34 l0 a1).f0) = 2 then ((spec_l3Name.f (wrap64 ((rd_T34 l0 a1).f1))).bind fun t146 => (some t146)) else (if ((rd_T34 l0 a1).f0) = 20 then (spec_l3Text.j0 k l0 a1 bt143.1 (((rd_T34 l0 a1).f1) == 1) ((rd_T34 l0 a1).f0) ((rd_T34 l0 a1).f1)) else (spec_l3Text.j0 k l0 a1 bt143.1 false ((rd_T34 l0 a1).f0) ((rd_T34 l0 a1).f1))))) else (none)) else (none)) = some r := h
  clear h
  by_cases c3 : 0 ≤ a1
  · rw [if_pos c3] at H
    have c3b0 : decide (0 ≤ a1) = true := decide_eq_true c3
    clear c3
    by_cases c4 : a1 < (l0.length : Int)
    · rw [if_pos c4] at H
      have c4b0 : decide (a1 < (l0.length : Int)) = true := decide_eq_true c4
      clear c4
      replace H := Option.bind_eq_some_iff.mp H
      obtain ⟨⟨t143, t144, t145⟩, A50, H⟩ := H
      replace H : (if ((rd_T34 l0 a1).f0) = 2 then ((spec_l3Name.f (wrap64 ((rd_T34 l0 a1).f1))).bind fun t146 => (some t146)) else (if ((rd_T34 l0 a1).f0) = 20 then (spec_l3Text.j0 k l0 a1 t143 (((rd_T34 l0 a1).f1) == 1) ((rd_T34 l0 a1).f0) ((rd_T34 l0 a1).f1)) else (spec_l3Text.j0 k l0 a1 t143 false ((rd_T34 l0 a1).f0) ((rd_T34 l0 a1).f1)))) = some r := H
      have A5 := Aside0.mk A50
      clear A50
      by_cases c6 : ((rd_T34 l0 a1).f0) = 2
      · rw [if_pos c6] at H
        have c6b0 : (((rd_T34 l0 a1).f0) == 2) = true := beq_iff_eq.mpr c6
        have c6b1 : (((rd_T34 l0 a1).f0) != 2) = false := bne_eq_false_iff_eq.mpr c6
        clear c6
        replace H := Option.bind_eq_some_iff.mp H
        obtain ⟨t146, A70, H⟩ := H
        replace H : (some t146) = some r := H
        have A7 := Aside0.mk A70
        clear A70
        obtain rfl := Option.some.inj H
        have p141 : 0 ≤ (a1 : Int) := qD
        have q141 : a1 < (l0.length : Int) := qD
        obtain ⟨ad141, e141, hx141_0, hx141_1⟩ := at_T34 HR0.out a1 p141 q141
        cases e141
        replace p141 := eq_true p141
        replace q141 := eq_true q141
        go_enter Tryd.func10, Tryd.ntmps10
        go_wp2_with (first | ((with_reducible refine gate_dst (N := 5) rfl ?_); refine box_event ?hg (N := 5) ?hd (cs := #[.int .i64 0, .int .u64 0]) (t := 34) ?hr ?_; (case hd => rfl); (case hg => rfl); (case hr => first | (go_simp; done) | (go_simp; rfl)); intro gb142 hg w8 hbox hb; have n0_ := Aside0.mk (below_step (qB) hb); have n1_ := Aside0.mk (hbox); have n2_ := Aside0.mk ((by rw [hg]; exact (below_size (qB)) : w.heap.size ≤ gb142)); have n3_ := Aside0.mk ((by rw [hg]; exact (below_size (qB)) : w.heap.size ≤ gb142)); clear HB; have HB := n0_; have BK142 := n1_; have GW142 := n2_; have GE142 := n3_; clear n0_ n1_ n2_ n3_; clear hb hbox hg; have hcz9_0 : w8.cell? ⟨gb142, 0, none⟩ = some (.int .i64 0) := (blk_cell BK142.out 0).trans rfl; have hcz9_1 : w8.cell? ⟨gb142, 1, none⟩ = some (.int .u64 0) := (blk_cell BK142.out 1).trans rfl; have hfz9_0 := blk_frozen BK142.out 0; have hfz9_1 := blk_frozen BK142.out 1) | ((with_reducible refine gate_callee (f := 16) rfl ?_); refine goesL_ (some 16) rfl rfl Tryd.func16 (by kernel_rfl) rfl #[.int .i64 ((rd_T34 l0 a1).f0)] rfl qG ?_; (with_reducible refine (spec_l2Need.calls k ((rd_T34 l0 a1).f0) t143 t144 t145 _ A5.out).mono ?_); rintro e w' ⟨rfl, ⟨nd, rfl⟩⟩; refine ⟨_, rfl, ?_⟩) | ((with_reducible refine gate_callee (f := 17) rfl ?_); refine goesL_ (some 27) rfl rfl Tryd.func17 (by kernel_rfl) rfl #[.int .i64 (wrap64 ((rd_T34 l0 a1).f1))] rfl qG ?_; (with_reducible refine (spec_l3Name.calls (wrap64 ((rd_T34 l0 a1).f1)) t146 _ A7.out).mono ?_); rintro e w10 ⟨rfl, hb⟩; refine ⟨_, rfl, ?_⟩; have n0_ := Aside0.mk (blk_below (g := gb142) (o := .cells #[.int .i64 ((rd_T34 l0 a1).f0), .int .u64 ((rd_T34 l0 a1).f1)] 34 (0, 0)) (by (with_reducible repeat (first | refine blk_drewN ?_ _ | refine blk_drew ?_ | refine blk_alloc ?_ _)); refine blk_put (cs := #[.int .i64 ((rd_T34 l0 a1).f0), .int .u64 0]) ?_ 1 _ rfl; (with_reducible repeat (first | refine blk_drewN ?_ _ | refine blk_drew ?_ | refine blk_alloc ?_ _)); refine blk_put (cs := #[.int .i64 0, .int .u64 0]) ?_ 0 _ rfl; (with_reducible repeat (first | refine blk_drewN ?_ _ | refine blk_drew ?_ | refine blk_alloc ?_ _)); exact BK142.out) hb); have n1_ := Aside0.mk (below_step (qB) hb); clear BK142; clear HB; have BK142 := n0_; have HB := n1_; clear n0_ n1_; (try clear hb); (try clear hb2); (try clear hk); (try clear hi)))
        go_ret
        exact ⟨qE, qB⟩
      · rw [if_neg c6] at H
        have c6b0 : (((rd_T34 l0 a1).f0) == 2) = false := beq_eq_false_iff_ne.mpr c6
        have c6b1 : (((rd_T34 l0 a1).f0) != 2) = true := bne_iff_ne.mpr c6
        have HC11 := Aside0.mk H
        clear H
        have p141 : 0 ≤ (a1 : Int) := qD
        have q141 : a1 < (l0.length : Int) := qD
        obtain ⟨ad141, e141, hx141_0, hx141_1⟩ := at_T34 HR0.out a1 p141 q141
        cases e141
        replace p141 := eq_true p141
        replace q141 := eq_true q141
        go_enter Tryd.func10, Tryd.ntmps10
        go_upto_region 5 with (first | ((with_reducible refine gate_dst (N := 5) rfl ?_); refine box_event ?hg (N := 5) ?hd (cs := #[.int .i64 0, .int .u64 0]) (t := 34) ?hr ?_; (case hd => rfl); (case hg => rfl); (case hr => first | (go_simp; done) | (go_simp; rfl)); intro gb142 hg w12 hbox hb; have n0_ := Aside0.mk (below_step (qB) hb); have n1_ := Aside0.mk (hbox); have n2_ := Aside0.mk ((by rw [hg]; exact (below_size (qB)) : w.heap.size ≤ gb142)); have n3_ := Aside0.mk ((by rw [hg]; exact (below_size (qB)) : w.heap.size ≤ gb142)); clear HB; have HB := n0_; have BK142 := n1_; have GW142 := n2_; have GE142 := n3_; clear n0_ n1_ n2_ n3_; clear hb hbox hg; have hcz13_0 : w12.cell? ⟨gb142, 0, none⟩ = some (.int .i64 0) := (blk_cell BK142.out 0).trans rfl; have hcz13_1 : w12.cell? ⟨gb142, 1, none⟩ = some (.int .u64 0) := (blk_cell BK142.out 1).trans rfl; have hfz13_0 := blk_frozen BK142.out 0; have hfz13_1 := blk_frozen BK142.out 1) | ((with_reducible refine gate_callee (f := 16) rfl ?_); refine goesL_ (some 16) rfl rfl Tryd.func16 (by kernel_rfl) rfl #[.int .i64 ((rd_T34 l0 a1).f0)] rfl qG ?_; (with_reducible refine (spec_l2Need.calls k ((rd_T34 l0 a1).f0) t143 t144 t145 _ A5.out).mono ?_); rintro e w' ⟨rfl, ⟨nd, rfl⟩⟩; refine ⟨_, rfl, ?_⟩))
        (try simp only [Act.put, List.setIfInBounds_toArray, List.set_cons_zero, List.set_cons_succ])
        go_cut [28] (fun v28 wc => ∃ (kq : Nat) (x28_10 : Bool), v28 = .bool x28_10 ∧ Aside0 (spec_l3Text.j0 kq l0 a1 t143 x28_10 ((rd_T34 l0 a1).f0) ((rd_T34 l0 a1).f1) = some r) ∧ Aside0 (kq ≤ k) ∧ Aside0 (wc.heap[gb142]? = some (.cells #[.int .i64 ((rd_T34 l0 a1).f0), .int .u64 ((rd_T34 l0 a1).f1)] 34 (0, 0))) ∧ Aside0 (Below w.heap.size w wc))
        case first =>
          have H := HC11.out
          clear HC11
          by_cases c14 : ((rd_T34 l0 a1).f0) = 20
          · rw [if_pos c14] at H
            have c14b0 : (((rd_T34 l0 a1).f0) == 20) = true := beq_iff_eq.mpr c14
            have c14b1 : (((rd_T34 l0 a1).f0) != 20) = false := bne_eq_false_iff_eq.mpr c14
            clear c14
            (first | rw [c14b0] | (simp only [i64_w, i32_w]; rw [c14b0]) | skip)
            have H' := Aside0.mk H
            clear H
            have hcz15_0 : w12.cell? ⟨gb142, 0, none⟩ = some (.int .i64 0) := (blk_cell BK142.out 0).trans rfl
            have hcz15_1 : w12.cell? ⟨gb142, 1, none⟩ = some (.int .u64 0) := (blk_cell BK142.out 1).trans rfl
            have hfz15_0 := blk_frozen BK142.out 0
            have hfz15_1 := blk_frozen BK142.out 1
            go_wp2
            go_meet
            case rel => exact ⟨_, ((((rd_T34 l0 a1).f1) == 1)), qS, H', ⟨by first | omega | exact Nat.le_refl _⟩, ⟨by (with_reducible repeat (first | refine blk_drewN ?_ _ | refine blk_drew ?_ | refine blk_alloc ?_ _)); refine blk_put (cs := #[.int .i64 ((rd_T34 l0 a1).f0), .int .u64 0]) ?_ 1 _ rfl; (with_reducible repeat (first | refine blk_drewN ?_ _ | refine blk_drew ?_ | refine blk_alloc ?_ _)); refine blk_put (cs := #[.int .i64 0, .int .u64 0]) ?_ 0 _ rfl; (with_reducible repeat (first | refine blk_drewN ?_ _ | refine blk_drew ?_ | refine blk_alloc ?_ _)); exact BK142.out⟩, ⟨qB⟩⟩
          · rw [if_neg c14] at H
            have c14b0 : (((rd_T34 l0 a1).f0) == 20) = false := beq_eq_false_iff_ne.mpr c14
            have c14b1 : (((rd_T34 l0 a1).f0) != 20) = true := bne_iff_ne.mpr c14
            (first | rw [c14b0] | (simp only [i64_w, i32_w]; rw [c14b0]) | skip)
            have H' := Aside0.mk H
            clear H
            have hcz16_0 : w12.cell? ⟨gb142, 0, none⟩ = some (.int .i64 0) := (blk_cell BK142.out 0).trans rfl
            have hcz16_1 : w12.cell? ⟨gb142, 1, none⟩ = some (.int .u64 0) := (blk_cell BK142.out 1).trans rfl
            have hfz16_0 := blk_frozen BK142.out 0
            have hfz16_1 := blk_frozen BK142.out 1
            go_wp2
            go_meet
            case rel => exact ⟨_, (false), qS, H', ⟨by first | omega | exact Nat.le_refl _⟩, ⟨by (with_reducible repeat (first | refine blk_drewN ?_ _ | refine blk_drew ?_ | refine blk_alloc ?_ _)); refine blk_put (cs := #[.int .i64 ((rd_T34 l0 a1).f0), .int .u64 0]) ?_ 1 _ rfl; (with_reducible repeat (first | refine blk_drewN ?_ _ | refine blk_drew ?_ | refine blk_alloc ?_ _)); refine blk_put (cs := #[.int .i64 0, .int .u64 0]) ?_ 0 _ rfl; (with_reducible repeat (first | refine blk_drewN ?_ _ | refine blk_drew ?_ | refine blk_alloc ?_ _)); exact BK142.out⟩, ⟨qB⟩⟩
        case rest =>
          clear HC11
          try clear c1
          try clear p1
          try clear q1
          try clear hx1
          try clear p2
          try clear c3
          try clear c3b0
          try clear c4
          try clear c4b0
          try clear c6
          try clear c6b0
          try clear c6b1
          try clear p6
          try clear c10
          try clear c14
          try clear c14b0
          try clear c14b1
          try clear p14
          try clear q14
          try clear hx14
          try clear c16
          try clear hcz13_0
          try clear hcz13_1
          try clear hcz15_0
          try clear hcz15_1
          try clear hcz16_0
          try clear hcz16_1
          try clear hcz9_0
          try clear hcz9_1
          try clear hfz13_0
          try clear hfz13_1
          try clear hfz15_0
          try clear hfz15_1
          try clear hfz16_0
          try clear hfz16_1
          try clear hfz9_0
          try clear hfz9_1
          try clear hx141_0
          try clear hx141_1
          try clear p141
          try clear q141
          obtain ⟨kq, x28_10, rfl, HA, HJ10, BK142, HB⟩ := hcut
          cases kq with
          | zero => exact absurd HA.out (by simp [spec_l3Text.j0])
          | succ kj10 =>
            have H := HA.out
            clear HA
            simp only [spec_l3Text.j0] at H
            by_cases c17 : x28_10 = true
            · subst c17
              have H1 : (some (⟨#[121, 101, 115]⟩ : ByteArray)) = some r := by rw [if_pos rfl] at H; exact H
              clear H
              have H := H1
              clear H1
              obtain rfl := Option.some.inj H
              go_wp2
              go_ret
              exact ⟨qE, qB⟩
            · replace c17 := Bool.eq_false_iff.mpr c17
              subst c17
              have H1 : (if ((rd_T34 l0 a1).f0) = 20 then (some (⟨#[110, 111]⟩ : ByteArray)) else (if t143 = 0 then ((spec_l1Num.f kj10 ((rd_T34 l0 a1).f1)).bind fun t147 => (some t147)) else (if t143 = 1 then ((spec_l3Sign.f ((rd_T34 l0 a1).f0)).bind fun t148 => ((spec_l3Text.f kj10 l0 (wrap64 (a1 - 1))).bind fun t149 => (if t148.size + t149.size ≤ 9223372036854775807 then (some (t148 ++ t149)) else (none)))) else ((spec_l2From.f kj10 l0 (wrap64 (a1 - 1))).bind fun t150 => ((spec_l3Text.f kj10 l0 (wrap64 (t150 - 1))).bind fun t151 => (if 1 + t151.size ≤ 9223372036854775807 then ((spec_l3Sign.f ((rd_T34 l0 a1).f0)).bind fun t152 => (if 1 + t151.size + t152.size ≤ 9223372036854775807 then ((spec_l3Text.f kj10 l0 (wrap64 (a1 - 1))).bind fun t153 => (if 1 + t151.size + t152.size + t153.size ≤ 9223372036854775807 then (if 1 + t151.size + t152.size + t153.size + 1 ≤ 9223372036854775807 then (some (((((⟨#[40]⟩ : ByteArray) ++ t151) ++ t152) ++ t153) ++ (⟨#[41]⟩ : ByteArray))) else (none)) else (none))) else (none))) else (none))))))) = some r := by rw [if_neg (show ¬ (false = true) by decide)] at H; exact H
              clear H
              have H := H1
              clear H1
              by_cases c18 : ((rd_T34 l0 a1).f0) = 20
              · rw [if_pos c18] at H
                have c18b0 : (((rd_T34 l0 a1).f0) == 20) = true := beq_iff_eq.mpr c18
                have c18b1 : (((rd_T34 l0 a1).f0) != 20) = false := bne_eq_false_iff_eq.mpr c18
                clear c18
                obtain rfl := Option.some.inj H
                have hcz19_0 : wc.cell? ⟨gb142, 0, none⟩ = some (.int .i64 ((rd_T34 l0 a1).f0)) := (blk_cell BK142.out 0).trans rfl
                have hcz19_1 : wc.cell? ⟨gb142, 1, none⟩ = some (.int .u64 ((rd_T34 l0 a1).f1)) := (blk_cell BK142.out 1).trans rfl
                have hfz19_0 := blk_frozen BK142.out 0
                have hfz19_1 := blk_frozen BK142.out 1
                go_wp2
                go_ret
                exact ⟨qE, qB⟩
              · rw [if_neg c18] at H
                have c18b0 : (((rd_T34 l0 a1).f0) == 20) = false := beq_eq_false_iff_ne.mpr c18
                have c18b1 : (((rd_T34 l0 a1).f0) != 20) = true := bne_iff_ne.mpr c18
                by_cases c20 : t143 = 0
                · rw [if_pos c20] at H
                  have c20b0 : (t143 == 0) = true := beq_iff_eq.mpr c20
                  have c20b1 : (t143 != 0) = false := bne_eq_false_iff_eq.mpr c20
                  clear c20
                  replace H := Option.bind_eq_some_iff.mp H
                  obtain ⟨t147, A210, H⟩ := H
                  replace H : (some t147) = some r := H
                  have A21 := Aside0.mk A210
                  clear A210
                  obtain rfl := Option.some.inj H
                  have hcz22_0 : wc.cell? ⟨gb142, 0, none⟩ = some (.int .i64 ((rd_T34 l0 a1).f0)) := (blk_cell BK142.out 0).trans rfl
                  have hcz22_1 : wc.cell? ⟨gb142, 1, none⟩ = some (.int .u64 ((rd_T34 l0 a1).f1)) := (blk_cell BK142.out 1).trans rfl
                  have hfz22_0 := blk_frozen BK142.out 0
                  have hfz22_1 := blk_frozen BK142.out 1
                  go_wp2_with (first | ((with_reducible refine gate_callee (f := 18) rfl ?_); refine goesL_ (some 46) rfl rfl Tryd.func18 (by kernel_rfl) rfl #[.int .u64 ((rd_T34 l0 a1).f1)] rfl qG ?_; (with_reducible refine (spec_l1Num.calls kj10 ((rd_T34 l0 a1).f1) t147 _ A21.out).mono ?_); rintro e w23 ⟨rfl, hb⟩; refine ⟨_, rfl, ?_⟩; have n0_ := Aside0.mk (blk_below (g := gb142) (o := .cells #[.int .i64 ((rd_T34 l0 a1).f0), .int .u64 ((rd_T34 l0 a1).f1)] 34 (0, 0)) (qK BK142.out) hb); have n1_ := Aside0.mk (below_step (qB) hb); clear BK142; clear HB; have BK142 := n0_; have HB := n1_; clear n0_ n1_; (try clear hb); (try clear hb2); (try clear hk); (try clear hi)))
                  go_ret
                  exact ⟨qE, qB⟩
                · rw [if_neg c20] at H
                  have c20b0 : (t143 == 0) = false := beq_eq_false_iff_ne.mpr c20
                  have c20b1 : (t143 != 0) = true := bne_iff_ne.mpr c20
                  by_cases c24 : t143 = 1
                  · rw [if_pos c24] at H
                    have c24b0 : (t143 == 1) = true := beq_iff_eq.mpr c24
                    have c24b1 : (t143 != 1) = false := bne_eq_false_iff_eq.mpr c24
                    clear c24
                    replace H := Option.bind_eq_some_iff.mp H
                    obtain ⟨t148, A250, H⟩ := H
                    replace H : ((spec_l3Text.f kj10 l0 (wrap64 (a1 - 1))).bind fun t149 => (if t148.size + t149.size ≤ 9223372036854775807 then (some (t148 ++ t149)) else (none))) = some r := H
                    have A25 := Aside0.mk A250
                    clear A250
                    replace H := Option.bind_eq_some_iff.mp H
                    obtain ⟨t149, A260, H⟩ := H
                    replace H : (if t148.size + t149.size ≤ 9223372036854775807 then (some (t148 ++ t149)) else (none)) = some r := H
                    have A26 := Aside0.mk A260
                    clear A260
                    by_cases c27 : t148.size + t149.size ≤ 9223372036854775807
                    · rw [if_pos c27] at H
                      have c27b0 := eq_true c27
                      have c27b1 : decide (t148.size + t149.size ≤ 9223372036854775807) = true := decide_eq_true c27
                      try have c27b2 : (9223372036854775807 < t148.size + t149.size) = False := eq_false (Nat.not_lt.2 c27)
                      obtain rfl := Option.some.inj H
                      have hcz28_0 : wc.cell? ⟨gb142, 0, none⟩ = some (.int .i64 ((rd_T34 l0 a1).f0)) := (blk_cell BK142.out 0).trans rfl
                      have hcz28_1 : wc.cell? ⟨gb142, 1, none⟩ = some (.int .u64 ((rd_T34 l0 a1).f1)) := (blk_cell BK142.out 1).trans rfl
                      have hfz28_0 := blk_frozen BK142.out 0
                      have hfz28_1 := blk_frozen BK142.out 1
                      go_wp2_with (first | ((with_reducible refine gate_callee (f := 19) rfl ?_); refine goesL_ (some 52) rfl rfl Tryd.func19 (by kernel_rfl) rfl #[.int .i64 ((rd_T34 l0 a1).f0)] rfl qG ?_; (with_reducible refine (spec_l3Sign.calls ((rd_T34 l0 a1).f0) t148 _ A25.out).mono ?_); rintro e w' ⟨rfl, ⟨nd, rfl⟩⟩; refine ⟨_, rfl, ?_⟩) | ((with_reducible refine gate_callee (f := 10) rfl ?_); refine goesL_ (some 56) rfl rfl Tryd.func10 (by kernel_rfl) rfl #[.slice (some ad141) l0.length c0, .int .i64 (wrap64 (a1 - 1))] rfl qG ?_; (with_reducible refine (ih kj10 (by have := HJ10.out; omega) _ _ l0 (wrap64 (a1 - 1)) t149 _ ?side1 ?side2 A26.out).mono ?_); (case side1 => repeat (first | exact (Kd.C_below HR0.out (qB)) | (with_reducible refine Kd.C_alloc ?_ _) | (with_reducible refine Kd.C_drewN ?_ _) | (with_reducible refine Kd.C_drew ?_))); (case side2 => exact HC0.out); rintro e w29 ⟨rfl, hb⟩; refine ⟨_, rfl, ?_⟩; have n0_ := Aside0.mk (blk_below (g := gb142) (o := .cells #[.int .i64 ((rd_T34 l0 a1).f0), .int .u64 ((rd_T34 l0 a1).f1)] 34 (0, 0)) (qK BK142.out) hb); have n1_ := Aside0.mk (below_step (qB) hb); clear BK142; clear HB; have BK142 := n0_; have HB := n1_; clear n0_ n1_; (try clear hb); (try clear hb2); (try clear hk); (try clear hi)))
                      go_ret
                      exact ⟨qE, qB⟩
                    · rw [if_neg c27] at H
                      exact absurd H (by simp)
                  · rw [if_neg c24] at H
                    have c24b0 : (t143 == 1) = false := beq_eq_false_iff_ne.mpr c24
                    have c24b1 : (t143 != 1) = true := bne_iff_ne.mpr c24
                    replace H := Option.bind_eq_some_iff.mp H
                    obtain ⟨t150, A300, H⟩ := H
                    replace H : ((spec_l3Text.f kj10 l0 (wrap64 (t150 - 1))).bind fun t151 => (if 1 + t151.size ≤ 9223372036854775807 then ((spec_l3Sign.f ((rd_T34 l0 a1).f0)).bind fun t152 => (if 1 + t151.size + t152.size ≤ 9223372036854775807 then ((spec_l3Text.f kj10 l0 (wrap64 (a1 - 1))).bind fun t153 => (if 1 + t151.size + t152.size + t153.size ≤ 9223372036854775807 then (if 1 + t151.size + t152.size + t153.size + 1 ≤ 9223372036854775807 then (some (((((⟨#[40]⟩ : ByteArray) ++ t151) ++ t152) ++ t153) ++ (⟨#[41]⟩ : ByteArray))) else (none)) else (none))) else (none))) else (none))) = some r := H
                    have A30 := Aside0.mk A300
                    clear A300
                    replace H := Option.bind_eq_some_iff.mp H
                    obtain ⟨t151, A310, H⟩ := H
                    replace H : (if 1 + t151.size ≤ 9223372036854775807 then ((spec_l3Sign.f ((rd_T34 l0 a1).f0)).bind fun t152 => (if 1 + t151.size + t152.size ≤ 9223372036854775807 then ((spec_l3Text.f kj10 l0 (wrap64 (a1 - 1))).bind fun t153 => (if 1 + t151.size + t152.size + t153.size ≤ 9223372036854775807 then (if 1 + t151.size + t152.size + t153.size + 1 ≤ 9223372036854775807 then (some (((((⟨#[40]⟩ : ByteArray) ++ t151) ++ t152) ++ t153) ++ (⟨#[41]⟩ : ByteArray))) else (none)) else (none))) else (none))) else (none)) = some r := H
                    have A31 := Aside0.mk A310
                    clear A310
                    by_cases c32 : 1 + t151.size ≤ 9223372036854775807
                    · rw [if_pos c32] at H
                      have c32b0 := eq_true c32
                      have c32b1 : decide (1 + t151.size ≤ 9223372036854775807) = true := decide_eq_true c32
                      try have c32b2 : (9223372036854775807 < 1 + t151.size) = False := eq_false (Nat.not_lt.2 c32)
                      replace H := Option.bind_eq_some_iff.mp H
                      obtain ⟨t152, A330, H⟩ := H
                      replace H : (if 1 + t151.size + t152.size ≤ 9223372036854775807 then ((spec_l3Text.f kj10 l0 (wrap64 (a1 - 1))).bind fun t153 => (if 1 + t151.size + t152.size + t153.size ≤ 9223372036854775807 then (if 1 + t151.size + t152.size + t153.size + 1 ≤ 9223372036854775807 then (some (((((⟨#[40]⟩ : ByteArray) ++ t151) ++ t152) ++ t153) ++ (⟨#[41]⟩ : ByteArray))) else (none)) else (none))) else (none)) = some r := H
                      have A33 := Aside0.mk A330
                      clear A330
                      by_cases c34 : 1 + t151.size + t152.size ≤ 9223372036854775807
                      · rw [if_pos c34] at H
                        have c34b0 := eq_true c34
                        have c34b1 : decide (1 + t151.size + t152.size ≤ 9223372036854775807) = true := decide_eq_true c34
                        try have c34b2 : (9223372036854775807 < 1 + t151.size + t152.size) = False := eq_false (Nat.not_lt.2 c34)
                        replace H := Option.bind_eq_some_iff.mp H
                        obtain ⟨t153, A350, H⟩ := H
                        replace H : (if 1 + t151.size + t152.size + t153.size ≤ 9223372036854775807 then (if 1 + t151.size + t152.size + t153.size + 1 ≤ 9223372036854775807 then (some (((((⟨#[40]⟩ : ByteArray) ++ t151) ++ t152) ++ t153) ++ (⟨#[41]⟩ : ByteArray))) else (none)) else (none)) = some r := H
                        have A35 := Aside0.mk A350
                        clear A350
                        by_cases c36 : 1 + t151.size + t152.size + t153.size ≤ 9223372036854775807
                        · rw [if_pos c36] at H
                          have c36b0 := eq_true c36
                          have c36b1 : decide (1 + t151.size + t152.size + t153.size ≤ 9223372036854775807) = true := decide_eq_true c36
                          try have c36b2 : (9223372036854775807 < 1 + t151.size + t152.size + t153.size) = False := eq_false (Nat.not_lt.2 c36)
                          by_cases c37 : 1 + t151.size + t152.size + t153.size + 1 ≤ 9223372036854775807
                          · rw [if_pos c37] at H
                            have c37b0 := eq_true c37
                            have c37b1 : decide (1 + t151.size + t152.size + t153.size + 1 ≤ 9223372036854775807) = true := decide_eq_true c37
                            try have c37b2 : (9223372036854775807 < 1 + t151.size + t152.size + t153.size + 1) = False := eq_false (Nat.not_lt.2 c37)
                            obtain rfl := Option.some.inj H
                            have hcz38_0 : wc.cell? ⟨gb142, 0, none⟩ = some (.int .i64 ((rd_T34 l0 a1).f0)) := (blk_cell BK142.out 0).trans rfl
                            have hcz38_1 : wc.cell? ⟨gb142, 1, none⟩ = some (.int .u64 ((rd_T34 l0 a1).f1)) := (blk_cell BK142.out 1).trans rfl
                            have hfz38_0 := blk_frozen BK142.out 0
                            have hfz38_1 := blk_frozen BK142.out 1
                            try go_wp2
                            have n0_ := Aside0.mk (blk_drew BK142.out)
                            have n1_ := Aside0.mk (below_drew1 HB.out)
                            clear BK142
                            clear HB
                            have BK142 := n0_
                            have HB := n1_
                            clear n0_ n1_
                            refine start_ (n := 19) (S := fun w' => w'.cell? ⟨gb142, 0, none⟩ = some (.int .i64 ((rd_T34 l0 a1).f0)) ∧ w'.cell? ⟨gb142, 1, none⟩ = some (.int .u64 ((rd_T34 l0 a1).f1))) (ds := []) #[false, false, false, false, false, false, false, false, false, false, false, false, false, false, false, false, false, false, false] (by kernel_rfl) rfl rfl ⟨(blk_cell BK142.out 0).trans rfl, (blk_cell BK142.out 1).trans rfl⟩ (fun hHeld => ?_); refine with_tabW spec_l3Text.tab13 spec_l3Text.bits13 (fun HT_ HW_ => ?_)
                            generalize wc.drew = w39 at BK142 HB hHeld ⊢
                            refine pure_ (i := 0) (N := some 58) (v := ?_) (a' := ?_) #[true, false, false, false, false, false, false, false, false, false, false, false, false, false, false, false, false, false, false] rfl rfl (any_of HT_.out (by kernel_rfl)) (fun _ _ _ h => h) (Or.inl ⟨by rfl, ?_⟩) ?_ ?_
                            rotate_left
                            · intro w'
                              go_simp
                              with_reducible rfl
                            rotate_left
                            · simp only [Act.put, List.setIfInBounds_toArray, List.set_cons_zero, List.set_cons_succ, i64_w, i32_w]
                              rfl
                            refine pure_ (i := 1) (N := some 59) (v := ?_) (a' := ?_) #[true, true, false, false, false, false, false, false, false, false, false, false, false, false, false, false, false, false, false] rfl rfl (any_of HT_.out (by kernel_rfl)) (fun _ _ _ h => h) (Or.inl ⟨by rfl, ?_⟩) ?_ ?_
                            rotate_left
                            · intro w'
                              go_simp
                              with_reducible rfl
                            rotate_left
                            · simp only [Act.put, List.setIfInBounds_toArray, List.set_cons_zero, List.set_cons_succ, i64_w, i32_w]
                              rfl
                            refine pure_ (i := 2) (N := some 60) (v := ?_) (a' := ?_) #[true, true, true, false, false, false, false, false, false, false, false, false, false, false, false, false, false, false, false] rfl rfl (any_of HT_.out (by kernel_rfl)) (fun _ _ _ h => h) (Or.inl ⟨by rfl, ?_⟩) ?_ ?_
                            rotate_left
                            · intro w'
                              go_simp
                              with_reducible rfl
                            rotate_left
                            · simp only [Act.put, List.setIfInBounds_toArray, List.set_cons_zero, List.set_cons_succ, i64_w, i32_w]
                              rfl
                            refine pure_ (i := 3) (N := some 61) (v := ?_) (a' := ?_) #[true, true, true, true, false, false, false, false, false, false, false, false, false, false, false, false, false, false, false] rfl rfl (any_of HT_.out (by kernel_rfl)) (fun _ _ _ h => h) (Or.inl ⟨by rfl, ?_⟩) ?_ ?_
                            rotate_left
                            · intro w'
                              go_simp
                              with_reducible rfl
                            rotate_left
                            · simp only [Act.put, List.setIfInBounds_toArray, List.set_cons_zero, List.set_cons_succ, i64_w, i32_w]
                              rfl
                            refine pure_ (i := 8) (N := some 66) (v := ?_) (a' := ?_) #[true, true, true, true, false, false, false, false, true, false, false, false, false, false, false, false, false, false, false] rfl rfl (any_of HT_.out (by kernel_rfl)) (fun _ _ _ h => h) (Or.inl ⟨by rfl, ?_⟩) ?_ ?_
                            rotate_left
                            · intro w'
                              go_simp
                              with_reducible rfl
                            rotate_left
                            · simp only [Act.put, List.setIfInBounds_toArray, List.set_cons_zero, List.set_cons_succ, i64_w, i32_w]
                              rfl
                            refine pure_ (i := 12) (N := some 70) (v := ?_) (a' := ?_) #[true, true, true, true, false, false, false, false, true, false, false, false, true, false, false, false, false, false, false] rfl rfl (any_of HT_.out (by kernel_rfl)) (fun _ _ _ h => h) (Or.inl ⟨by rfl, ?_⟩) ?_ ?_
                            rotate_left
                            · intro w'
                              go_simp
                              with_reducible rfl
                            rotate_left
                            · simp only [Act.put, List.setIfInBounds_toArray, List.set_cons_zero, List.set_cons_succ, i64_w, i32_w]
                              rfl
                            refine pure_ (i := 13) (N := some 71) (v := ?_) (a' := ?_) #[true, true, true, true, false, false, false, false, true, false, false, false, true, true, false, false, false, false, false] rfl rfl (any_of HT_.out (by kernel_rfl)) (fun _ _ _ h => h) (Or.inl ⟨by rfl, ?_⟩) ?_ ?_
                            rotate_left
                            · intro w'
                              go_simp
                              with_reducible rfl
                            rotate_left
                            · simp only [Act.put, List.setIfInBounds_toArray, List.set_cons_zero, List.set_cons_succ, i64_w, i32_w]
                              rfl
                            refine pure_ (i := 14) (N := some 72) (v := ?_) (a' := ?_) #[true, true, true, true, false, false, false, false, true, false, false, false, true, true, true, false, false, false, false] rfl rfl (any_of HT_.out (by kernel_rfl)) (fun _ _ _ h => h) (Or.inl ⟨by rfl, ?_⟩) ?_ ?_
                            rotate_left
                            · intro w'
                              go_simp
                              with_reducible rfl
                            rotate_left
                            · simp only [Act.put, List.setIfInBounds_toArray, List.set_cons_zero, List.set_cons_succ, i64_w, i32_w]
                              rfl
                            refine take_ (i := 9) (N := some 67) (v := ?_) (a' := ?_) #[true, true, true, true, false, false, false, false, true, true, false, false, true, true, true, false, false, false, false] rfl rfl (take_ofW HT_.out HW_.out (by kernel_rfl)) (fun _ _ _ h => h) (Or.inl ⟨by rfl, ?_⟩) hHeld ?_ ?_
                            rotate_left
                            · rintro w' ⟨s0, s1⟩
                              go_simp
                              with_reducible rfl
                            rotate_left
                            · simp only [Act.put, List.setIfInBounds_toArray, List.set_cons_zero, List.set_cons_succ, i64_w, i32_w]
                              rfl
                            refine one_ (i := 4) (N := some 62) #[true, true, true, true, true, false, false, false, true, true, false, false, true, true, true, false, false, false, false] rfl rfl (one_of HT_.out (by kernel_rfl)) (by decide) (fun K hK => ?_)
                            refine goes_ Tryd.func20 (by kernel_rfl) rfl #[.slice (some ad141) l0.length c0, .int .i64 (wrap64 (a1 - 1))] (by rfl) rfl rfl qG ?_
                            with_reducible refine (spec_l2From.calls kj10 _ _ l0 (wrap64 (a1 - 1)) t150 _ ?side1 ?side2 A30.out).mono ?_
                            (case side1 => exact qC (Kd.C_below HR0.out HB.out))
                            (case side2 => exact HC0.out)
                            rintro e w' ⟨rfl, ⟨nd, rfl⟩⟩
                            refine ⟨_, rfl, ?_⟩
                            refine hK.out _ _ ⟨(blk_cell BK142.out 0).trans rfl, (blk_cell BK142.out 1).trans rfl⟩ (fun hHeld => ?_)
                            clear hK K
                            refine norm_ (a' := ?_) ?_ ?_
                            rotate_left
                            · show Act.put _ (some 62) _ = _
                              simp only [Act.put, List.setIfInBounds_toArray, List.set_cons_zero, List.set_cons_succ, i64_w, i32_w]
                              rfl
                            refine pure_ (i := 5) (N := some 63) (v := ?_) (a' := ?_) #[true, true, true, true, true, true, false, false, true, true, false, false, true, true, true, false, false, false, false] rfl rfl (any_of HT_.out (by kernel_rfl)) (fun _ _ _ h => h) (Or.inl ⟨by rfl, ?_⟩) ?_ ?_
                            rotate_left
                            · intro w'
                              go_simp
                              with_reducible rfl
                            rotate_left
                            · simp only [Act.put, List.setIfInBounds_toArray, List.set_cons_zero, List.set_cons_succ, i64_w, i32_w]
                              rfl
                            refine one_ (i := 6) (N := some 64) #[true, true, true, true, true, true, true, false, true, true, false, false, true, true, true, false, false, false, false] rfl rfl (one_of HT_.out (by kernel_rfl)) (by decide) (fun K hK => ?_)
                            refine goes_ Tryd.func10 (by kernel_rfl) rfl #[.slice (some ad141) l0.length c0, .int .i64 (wrap64 (t150 - 1))] (by rfl) rfl rfl qG ?_
                            with_reducible refine (ih kj10 (by have := HJ10.out; omega) _ _ l0 (wrap64 (t150 - 1)) t151 _ ?side1 ?side2 A31.out).mono ?_
                            (case side1 => repeat (first | exact (Kd.C_below HR0.out (qB)) | (with_reducible refine Kd.C_alloc ?_ _) | (with_reducible refine Kd.C_drewN ?_ _) | (with_reducible refine Kd.C_drew ?_)))
                            (case side2 => exact HC0.out)
                            rintro e w40 ⟨rfl, hb⟩
                            refine ⟨_, rfl, ?_⟩
                            have n0_ := Aside0.mk (blk_below (g := gb142) (o := .cells #[.int .i64 ((rd_T34 l0 a1).f0), .int .u64 ((rd_T34 l0 a1).f1)] 34 (0, 0)) (qK BK142.out) hb)
                            have n1_ := Aside0.mk (below_step (qB) hb)
                            clear BK142
                            clear HB
                            have BK142 := n0_
                            have HB := n1_
                            clear n0_ n1_
                            (try clear hb)
                            (try clear hb2)
                            (try clear hk)
                            (try clear hi)
                            refine hK.out _ _ ⟨(blk_cell BK142.out 0).trans rfl, (blk_cell BK142.out 1).trans rfl⟩ (fun hHeld => ?_)
                            clear hK K
                            refine norm_ (a' := ?_) ?_ ?_
                            rotate_left
                            · show Act.put _ (some 64) _ = _
                              simp only [Act.put, List.setIfInBounds_toArray, List.set_cons_zero, List.set_cons_succ, i64_w, i32_w]
                              rfl
                            refine pure_ (i := 7) (N := some 65) (v := ?_) (a' := ?_) #[true, true, true, true, true, true, true, true, true, true, false, false, true, true, true, false, false, false, false] rfl rfl (any_of HT_.out (by kernel_rfl)) (fun _ _ _ h => h) (Or.inl ⟨by rfl, ?_⟩) ?_ ?_
                            rotate_left
                            · intro w'
                              go_simp
                              with_reducible rfl
                            rotate_left
                            · simp only [Act.put, List.setIfInBounds_toArray, List.set_cons_zero, List.set_cons_succ, i64_w, i32_w]
                              rfl
                            refine one_ (i := 10) (N := some 68) #[true, true, true, true, true, true, true, true, true, true, true, false, true, true, true, false, false, false, false] rfl rfl (one_of HT_.out (by kernel_rfl)) (by decide) (fun K hK => ?_)
                            refine goes_ Tryd.func19 (by kernel_rfl) rfl #[.int .i64 ((rd_T34 l0 a1).f0)] (by rfl) rfl rfl qG ?_
                            with_reducible refine (spec_l3Sign.calls ((rd_T34 l0 a1).f0) t152 _ A33.out).mono ?_
                            rintro e w' ⟨rfl, ⟨nd, rfl⟩⟩
                            refine ⟨_, rfl, ?_⟩
                            refine hK.out _ _ ⟨(blk_cell BK142.out 0).trans rfl, (blk_cell BK142.out 1).trans rfl⟩ (fun hHeld => ?_)
                            clear hK K
                            refine norm_ (a' := ?_) ?_ ?_
                            rotate_left
                            · show Act.put _ (some 68) _ = _
                              simp only [Act.put, List.setIfInBounds_toArray, List.set_cons_zero, List.set_cons_succ, i64_w, i32_w]
                              rfl
                            refine pure_ (i := 11) (N := some 69) (v := ?_) (a' := ?_) #[true, true, true, true, true, true, true, true, true, true, true, true, true, true, true, false, false, false, false] rfl rfl (any_of HT_.out (by kernel_rfl)) (fun _ _ _ h => h) (Or.inl ⟨by rfl, ?_⟩) ?_ ?_
                            rotate_left
                            · intro w'
                              go_simp
                              with_reducible rfl
                            rotate_left
                            · simp only [Act.put, List.setIfInBounds_toArray, List.set_cons_zero, List.set_cons_succ, i64_w, i32_w]
                              rfl
                            refine one_ (i := 15) (N := some 73) #[true, true, true, true, true, true, true, true, true, true, true, true, true, true, true, true, false, false, false] rfl rfl (one_of HT_.out (by kernel_rfl)) (by decide) (fun K hK => ?_)
                            refine goes_ Tryd.func10 (by kernel_rfl) rfl #[.slice (some ad141) l0.length c0, .int .i64 (wrap64 (a1 - 1))] (by rfl) rfl rfl qG ?_
                            with_reducible refine (ih kj10 (by have := HJ10.out; omega) _ _ l0 (wrap64 (a1 - 1)) t153 _ ?side1 ?side2 A35.out).mono ?_
                            (case side1 => repeat (first | exact (Kd.C_below HR0.out (qB)) | (with_reducible refine Kd.C_alloc ?_ _) | (with_reducible refine Kd.C_drewN ?_ _) | (with_reducible refine Kd.C_drew ?_)))
                            (case side2 => exact HC0.out)
                            rintro e w41 ⟨rfl, hb⟩
                            refine ⟨_, rfl, ?_⟩
                            have n0_ := Aside0.mk (blk_below (g := gb142) (o := .cells #[.int .i64 ((rd_T34 l0 a1).f0), .int .u64 ((rd_T34 l0 a1).f1)] 34 (0, 0)) (qK BK142.out) hb)
                            have n1_ := Aside0.mk (below_step (qB) hb)
                            clear BK142
                            clear HB
                            have BK142 := n0_
                            have HB := n1_
                            clear n0_ n1_
                            (try clear hb)
                            (try clear hb2)
                            (try clear hk)
                            (try clear hi)
                            refine hK.out _ _ ⟨(blk_cell BK142.out 0).trans rfl, (blk_cell BK142.out 1).trans rfl⟩ (fun hHeld => ?_)
                            clear hK K
                            refine norm_ (a' := ?_) ?_ ?_
                            rotate_left
                            · show Act.put _ (some 73) _ = _
                              simp only [Act.put, List.setIfInBounds_toArray, List.set_cons_zero, List.set_cons_succ, i64_w, i32_w]
                              rfl
                            refine pure_ (i := 16) (N := some 74) (v := ?_) (a' := ?_) #[true, true, true, true, true, true, true, true, true, true, true, true, true, true, true, true, true, false, false] rfl rfl (any_of HT_.out (by kernel_rfl)) (fun _ _ _ h => h) (Or.inl ⟨by rfl, ?_⟩) ?_ ?_
                            rotate_left
                            · intro w'
                              go_simp
                              with_reducible rfl
                            rotate_left
                            · simp only [Act.put, List.setIfInBounds_toArray, List.set_cons_zero, List.set_cons_succ, i64_w, i32_w]
                              rfl
                            refine pure_ (i := 17) (N := some 75) (v := ?_) (a' := ?_) #[true, true, true, true, true, true, true, true, true, true, true, true, true, true, true, true, true, true, false] rfl rfl (any_of HT_.out (by kernel_rfl)) (fun _ _ _ h => h) (Or.inl ⟨by rfl, ?_⟩) ?_ ?_
                            rotate_left
                            · intro w'
                              go_simp
                              with_reducible rfl
                            rotate_left
                            · simp only [Act.put, List.setIfInBounds_toArray, List.set_cons_zero, List.set_cons_succ, i64_w, i32_w]
                              rfl
                            refine pure_ (i := 18) (N := some 4) (v := ?_) (a' := ?_) #[true, true, true, true, true, true, true, true, true, true, true, true, true, true, true, true, true, true, true] rfl rfl (any_of HT_.out (by kernel_rfl)) (fun _ _ _ h => h) (Or.inl ⟨by rfl, ?_⟩) ?_ ?_
                            rotate_left
                            · intro w'
                              go_simp
                              with_reducible rfl
                            rotate_left
                            · simp only [Act.put, List.setIfInBounds_toArray, List.set_cons_zero, List.set_cons_succ, i64_w, i32_w]
                              rfl
                            refine done_ (done_of HT_.out (by kernel_rfl)) ?_
                            try go_wp2
                            go_ret
                            exact ⟨qE, qB⟩
                          · rw [if_neg c37] at H
                            exact absurd H (by simp)
                        · rw [if_neg c36] at H
                          exact absurd H (by simp)
                      · rw [if_neg c34] at H
                        exact absurd H (by simp)
                    · rw [if_neg c32] at H
                      exact absurd H (by simp)
    · rw [if_neg c4] at H
      exact absurd H (by simp)
  · rw [if_neg c3] at H
    exact absurd H (by simp)

end Go.Proofs.YtckdgmbmjfhodaaDoor.X
