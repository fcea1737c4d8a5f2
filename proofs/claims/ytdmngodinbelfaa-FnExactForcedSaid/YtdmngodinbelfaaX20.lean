/- Each Go function as a Lean function, with the proof that the call comes to just its answer; or a law's row out of its pure statement. Conditions: the arguments are of their kinds. Written by this session's program wip/xp/xp.sh. -/
import Derived.Test.YtdmngodinbelfaaX0
import Derived.Test.YtdmngodinbelfaaX1
import Derived.Test.YtdmngodinbelfaaX7
import Derived.Test.YtdmngodinbelfaaX19
namespace Go.Proofs.Ytdmngodinbelfaa.X
open Go.RowKit Go.Proofs.YtdmngodinbelfaaW.PrintWords Go.Proofs.YtdmngodinbelfaaW.PrintLast Go.Proofs.YtdmngodinbelfaaW.PrintMore
attribute [local go_sem] max2_int min2_int max_two min_two max_three min_three max_four min_four   -- for this text's walks alone
set_option linter.unusedVariables false
set_option linter.unusedSimpArgs false

/-! ### spec_Forced: function 20 -/
mutual
def spec_Forced.j0 : Nat → List Int → Bool → Int → List (List Int) → Option (List Int × Bool × Bool)
  | 0, _, _, _, _ => none
  | k + 1, x1, x21, x254000, x254001 => if x21 = true then (some (([] : List Int), false, false)) else (if 0 ≤ (wrap64 (x254000 + 1)) then (if (wrap64 (x254000 + 1) : Int).toNat ≤ 35184372088832 then (spec_Forced.l0 k (List.replicate (wrap64 (x254000 + 1) : Int).toNat 0) x1 (x1.length : Int) 0 x254000 x254001) else (none)) else (none))
def spec_Forced.l0 : Nat → List Int → List Int → Int → Int → Int → List (List Int) → Option (List Int × Bool × Bool)
  | 0, _, _, _, _, _, _ => none
  | k + 1, x7, x26, x27, x28, x254000, x254001 => if x28 < x27 then (if 0 ≤ x28 then (if x28 < (x26.length : Int) then (if (rd x26 x28) = 0 then (spec_Forced.j2 k x7 (rd x26 x28) x26 x27 x28 true x254000 x254001) else ((spec_l1In.f (rd x26 x28) (wrap64 (-x254000)) x254000).bind fun t259 => (if t259 = true then ((spec_l6Sign.f x7 (rd x26 x28)).bind fun t260 => (spec_Forced.j2 k x7 (rd x26 x28) x26 x27 x28 (t260 != 0) x254000 x254001)) else (spec_Forced.j2 k x7 (rd x26 x28) x26 x27 x28 true x254000 x254001)))) else (none)) else (none)) else ((spec_l6Force.f k x254000 x254001 x7).bind fun bt263 => (if bt263.1 = true then (some (([] : List Int), true, true)) else (spec_Forced.l1 k bt263.2 ([] : List Int) 1 x254000 x254001)))
def spec_Forced.j2 : Nat → List Int → Int → List Int → Int → Int → Bool → Int → List (List Int) → Option (List Int × Bool × Bool)
  | 0, _, _, _, _, _, _, _, _ => none
  | k + 1, x7, x9, x26, x27, x28, x49, x254000, x254001 => if x49 = true then (some (([] : List Int), false, false)) else (if x9 < 0 then (if 0 ≤ (wrap64 (-x9)) then (if (wrap64 (-x9)) < (x7.length : Int) then (spec_Forced.l0 k (x7.set ((wrap64 (-x9)) : Int).toNat (-1)) x26 x27 (wrap64 (x28 + 1)) x254000 x254001) else (none)) else (none)) else (if 0 ≤ x9 then (if x9 < (x7.length : Int) then (spec_Forced.l0 k (x7.set (x9 : Int).toNat 1) x26 x27 (wrap64 (x28 + 1)) x254000 x254001) else (none)) else (none)))
def spec_Forced.l1 : Nat → List Int → List Int → Int → Int → List (List Int) → Option (List Int × Bool × Bool)
  | 0, _, _, _, _, _ => none
  | k + 1, x7, x10, x11, x254000, x254001 => if x11 ≤ x254000 then (if 0 ≤ x11 then (if x11 < (x7.length : Int) then (if (rd x7 x11) = 0 then (spec_Forced.l1 k x7 x10 (wrap64 (x11 + 1)) x254000 x254001) else (if x10.length < 17592186044416 then (spec_Forced.l1 k x7 (x10 ++ [wrap64 (x11 * (rd x7 x11))]) (wrap64 (x11 + 1)) x254000 x254001) else (none))) else (none)) else (none)) else (some (x10, false, true))
end
def spec_Forced.f (k : Nat) (a0_0 : Int) (l0_1 : List (List Int)) (l1 : List Int) : Option (List Int × Bool × Bool) := (spec_GoodCnf.f k a0_0 l0_1).bind fun t254 => (if t254 = true then (spec_Forced.j0 k l1 (decide ((l1.length : Int) > a0_0)) a0_0 l0_1) else (spec_Forced.j0 k l1 true a0_0 l0_1))
theorem spec_Forced.mono_l : ∀ k, (∀ y0 y1 y2 y3, LeO (spec_Forced.j0 k y0 y1 y2 y3) (spec_Forced.j0 (k + 1) y0 y1 y2 y3)) ∧ (∀ y0 y1 y2 y3 y4 y5, LeO (spec_Forced.l0 k y0 y1 y2 y3 y4 y5) (spec_Forced.l0 (k + 1) y0 y1 y2 y3 y4 y5)) ∧ (∀ y0 y1 y2 y3 y4 y5 y6 y7, LeO (spec_Forced.j2 k y0 y1 y2 y3 y4 y5 y6 y7) (spec_Forced.j2 (k + 1) y0 y1 y2 y3 y4 y5 y6 y7)) ∧ (∀ y0 y1 y2 y3 y4, LeO (spec_Forced.l1 k y0 y1 y2 y3 y4) (spec_Forced.l1 (k + 1) y0 y1 y2 y3 y4))
  | 0 => ⟨fun _ _ _ _ r h => by simp [spec_Forced.j0] at h, fun _ _ _ _ _ _ r h => by simp [spec_Forced.l0] at h, fun _ _ _ _ _ _ _ _ r h => by simp [spec_Forced.j2] at h, fun _ _ _ _ _ r h => by simp [spec_Forced.l1] at h⟩
  | k + 1 => by
    obtain ⟨ih0, ih1, ih2, ih3⟩ := spec_Forced.mono_l k
    refine ⟨?_, ?_, ?_, ?_⟩
    · intro y0 y1 y2 y3
      unfold spec_Forced.j0
      repeat' first
      | (with_reducible exact ih0 _ _ _ _)
      | (with_reducible exact ih1 _ _ _ _ _ _)
      | (with_reducible exact ih2 _ _ _ _ _ _ _ _)
      | (with_reducible exact ih3 _ _ _ _ _)
      | (with_reducible exact spec_GoodCnf.mono _ _ _)
      | (with_reducible exact spec_l6Force.mono _ _ _ _)
      | (with_reducible exact LeO.refl _)
      | (with_reducible exact LeO.none _)
      | (with_reducible refine LeO.ite ?_ ?_)
      | (with_reducible refine LeO.bind ?_ (fun _ => ?_))
      | exact ih0 _ _ _ _
      | exact ih1 _ _ _ _ _ _
      | exact ih2 _ _ _ _ _ _ _ _
      | exact ih3 _ _ _ _ _
      | exact spec_GoodCnf.mono _ _ _
      | exact spec_l6Force.mono _ _ _ _
      | exact LeO.none _
      | refine LeO.ite ?_ ?_
      | refine LeO.bind ?_ (fun _ => ?_)
    · intro y0 y1 y2 y3 y4 y5
      unfold spec_Forced.l0
      repeat' first
      | (with_reducible exact ih0 _ _ _ _)
      | (with_reducible exact ih1 _ _ _ _ _ _)
      | (with_reducible exact ih2 _ _ _ _ _ _ _ _)
      | (with_reducible exact ih3 _ _ _ _ _)
      | (with_reducible exact spec_GoodCnf.mono _ _ _)
      | (with_reducible exact spec_l6Force.mono _ _ _ _)
      | (with_reducible exact LeO.refl _)
      | (with_reducible exact LeO.none _)
      | (with_reducible refine LeO.ite ?_ ?_)
      | (with_reducible refine LeO.bind ?_ (fun _ => ?_))
      | exact ih0 _ _ _ _
      | exact ih1 _ _ _ _ _ _
      | exact ih2 _ _ _ _ _ _ _ _
      | exact ih3 _ _ _ _ _
      | exact spec_GoodCnf.mono _ _ _
      | exact spec_l6Force.mono _ _ _ _
      | exact LeO.none _
      | refine LeO.ite ?_ ?_
      | refine LeO.bind ?_ (fun _ => ?_)
    · intro y0 y1 y2 y3 y4 y5 y6 y7
      unfold spec_Forced.j2
      repeat' first
      | (with_reducible exact ih0 _ _ _ _)
      | (with_reducible exact ih1 _ _ _ _ _ _)
      | (with_reducible exact ih2 _ _ _ _ _ _ _ _)
      | (with_reducible exact ih3 _ _ _ _ _)
      | (with_reducible exact spec_GoodCnf.mono _ _ _)
      | (with_reducible exact spec_l6Force.mono _ _ _ _)
      | (with_reducible exact LeO.refl _)
      | (with_reducible exact LeO.none _)
      | (with_reducible refine LeO.ite ?_ ?_)
      | (with_reducible refine LeO.bind ?_ (fun _ => ?_))
      | exact ih0 _ _ _ _
      | exact ih1 _ _ _ _ _ _
      | exact ih2 _ _ _ _ _ _ _ _
      | exact ih3 _ _ _ _ _
      | exact spec_GoodCnf.mono _ _ _
      | exact spec_l6Force.mono _ _ _ _
      | exact LeO.none _
      | refine LeO.ite ?_ ?_
      | refine LeO.bind ?_ (fun _ => ?_)
    · intro y0 y1 y2 y3 y4
      unfold spec_Forced.l1
      repeat' first
      | (with_reducible exact ih0 _ _ _ _)
      | (with_reducible exact ih1 _ _ _ _ _ _)
      | (with_reducible exact ih2 _ _ _ _ _ _ _ _)
      | (with_reducible exact ih3 _ _ _ _ _)
      | (with_reducible exact spec_GoodCnf.mono _ _ _)
      | (with_reducible exact spec_l6Force.mono _ _ _ _)
      | (with_reducible exact LeO.refl _)
      | (with_reducible exact LeO.none _)
      | (with_reducible refine LeO.ite ?_ ?_)
      | (with_reducible refine LeO.bind ?_ (fun _ => ?_))
      | exact ih0 _ _ _ _
      | exact ih1 _ _ _ _ _ _
      | exact ih2 _ _ _ _ _ _ _ _
      | exact ih3 _ _ _ _ _
      | exact spec_GoodCnf.mono _ _ _
      | exact spec_l6Force.mono _ _ _ _
      | exact LeO.none _
      | refine LeO.ite ?_ ?_
      | refine LeO.bind ?_ (fun _ => ?_)
theorem spec_Forced.mono : ∀ a0 a1 a2 k, LeO (spec_Forced.f k a0 a1 a2) (spec_Forced.f (k + 1) a0 a1 a2) := by
  intro a0 a1 a2 k
  obtain ⟨ih0, ih1, ih2, ih3⟩ := spec_Forced.mono_l k
  unfold spec_Forced.f
  repeat' first
      | (with_reducible exact ih0 _ _ _ _)
      | (with_reducible exact ih1 _ _ _ _ _ _)
      | (with_reducible exact ih2 _ _ _ _ _ _ _ _)
      | (with_reducible exact ih3 _ _ _ _ _)
      | (with_reducible exact spec_GoodCnf.mono _ _ _)
      | (with_reducible exact spec_l6Force.mono _ _ _ _)
      | (with_reducible exact LeO.refl _)
      | (with_reducible exact LeO.none _)
      | (with_reducible refine LeO.ite ?_ ?_)
      | (with_reducible refine LeO.bind ?_ (fun _ => ?_))
      | exact ih0 _ _ _ _
      | exact ih1 _ _ _ _ _ _
      | exact ih2 _ _ _ _ _ _ _ _
      | exact ih3 _ _ _ _ _
      | exact spec_GoodCnf.mono _ _ _
      | exact spec_l6Force.mono _ _ _ _
      | exact LeO.none _
      | refine LeO.ite ?_ ?_
      | refine LeO.bind ?_ (fun _ => ?_)
set_option maxHeartbeats 8000000 in
set_option maxRecDepth 100000 in
theorem spec_Forced.calls (k : Nat) (a0_0 : Int) (A0_1 : Option Addr) (c0_1 : Nat) (l0_1 : List (List Int)) (A1 : Option Addr) (c1 : Nat) (l1 : List Int) (r1 : List Int) (r2 : Bool) (r3 : Bool) (w : World) (hr0_1 : Kd.C (Kd.slice 3 (Kd.int .i64)) w A0_1 l0_1.length l0_1) (hc0_1 : l0_1.length ≤ c0_1) (hr1 : Kd.C (Kd.int .i64) w A1 l1.length l1) (hc1 : l1.length ≤ c1) (h : spec_Forced.f k a0_0 l0_1 l1 = some (r1, r2, r3)) :
    Calls Try.prog 20 #[.agg #[.int .i64 a0_0, .slice A0_1 l0_1.length c0_1], .slice A1 l1.length c1] w fun e w' => ∃ v0_ : Value, e = .returned (.tuple #[v0_, .bool r2, .bool r3]) ∧ Kd.R (Kd.int .i64) 3 w' w.heap.size (fun _ => True) v0_ r1 ∧ Below w.heap.size w w' := by
  have hu27 := Try.underlying27
  have HR0_1 := Aside0.mk hr0_1
  have HC0_1 := Aside0.mk hc0_1
  clear hr0_1 hc0_1
  have HR1 := Aside0.mk hr1
  have HC1 := Aside0.mk hc1
  clear hr1 hc1
  have HB := Aside0.mk (Below.refl w.heap.size w)
  have H : ((spec_GoodCnf.f k a0_0 l0_1).bind fun t254 => (if t254 = true then (spec_Forced.j0 k l1 (decide ((l1.length : Int) > a0_0)) a0_0 l0_1) else (spec_Forced.j0 k l1 true a0_0 l0_1))) = some (r1, r2, r3) := h
  clear h
  have HC3 := Aside0.mk H
  clear H
  go_enter Try.func20, Try.ntmps20
  go_upto_region 1 with (first | ((with_reducible refine gate_dst (N := 2) rfl ?_); (try (refine gate_guard (by rfl) ?_; dsimp only)); refine box_event ?hg (N := 2) ?hd (cs := #[.int .i64 a0_0, .slice A0_1 l0_1.length c0_1]) (t := 27) ?hr ?_; (case hd => rfl); (case hg => rfl); (case hr => first | (go_simp; done) | (go_simp; rfl)); intro gb253 hg w4 hbox hb; have n0_ := Aside0.mk (below_step (qB) hb); have n1_ := Aside0.mk (hbox); have n2_ := Aside0.mk ((by rw [hg]; exact (below_size (qB)) : w.heap.size ≤ gb253)); have n3_ := Aside0.mk ((by rw [hg]; exact (below_size (qB)) : w.heap.size ≤ gb253)); clear HB; have HB := n0_; have BK253 := n1_; have GW253 := n2_; have GE253 := n3_; clear n0_ n1_ n2_ n3_; clear hb hbox hg))
  (try simp only [Act.put, List.setIfInBounds_toArray, List.set_cons_zero, List.set_cons_succ])
  go_cut [21] (fun v21 wc => ∃ (kq : Nat) (x21_2 : Bool), v21 = .bool x21_2 ∧ Aside0 (spec_Forced.j0 kq l1 x21_2 a0_0 l0_1 = some (r1, r2, r3)) ∧ Aside0 (kq ≤ k) ∧ Aside0 (wc.heap[gb253]? = some (.cells #[.int .i64 a0_0, (.slice A0_1 l0_1.length c0_1)] 27 (0, 0))) ∧ Aside0 (Below w.heap.size w wc))
  case first =>
    have H := HC3.out
    clear HC3
    replace H := Option.bind_eq_some_iff.mp H
    obtain ⟨t254, A50, H⟩ := H
    replace H : (if t254 = true then (spec_Forced.j0 k l1 (decide ((l1.length : Int) > a0_0)) a0_0 l0_1) else (spec_Forced.j0 k l1 true a0_0 l0_1)) = some (r1, r2, r3) := H
    have A5 := Aside0.mk A50
    clear A50
    by_cases c6 : t254 = true
    · subst c6
      have H1 : (spec_Forced.j0 k l1 (decide ((l1.length : Int) > a0_0)) a0_0 l0_1) = some (r1, r2, r3) := by rw [if_pos rfl] at H; exact H
      clear H
      have H := H1
      clear H1
      have H' := Aside0.mk H
      clear H
      have hcz7_0 : w4.cell? ⟨gb253, 0, none⟩ = some (.int .i64 a0_0) := (blk_cell BK253.out 0).trans rfl
      have hcz7_1 : w4.cell? ⟨gb253, 1, none⟩ = some (.slice A0_1 l0_1.length c0_1) := (blk_cell BK253.out 1).trans rfl
      have hfz7_0 := blk_frozen BK253.out 0
      have hfz7_1 := blk_frozen BK253.out 1
      go_wp2_with (first | ((with_reducible refine gate_callee (f := 10) rfl ?_); refine goesL_ (some 13) rfl rfl Try.func10 (by kernel_rfl) rfl #[.agg #[.int .i64 a0_0, .slice A0_1 l0_1.length c0_1]] rfl qG ?_; (with_reducible refine (spec_GoodCnf.calls k a0_0 _ _ l0_1 true _ ?side1 ?side2 A5.out).mono ?_); (case side1 => exact qC (Kd.C_below HR0_1.out HB.out)); (case side2 => exact HC0_1.out); rintro e w8 ⟨rfl, hb⟩; refine ⟨_, rfl, ?_⟩; have n0_ := Aside0.mk (blk_below (g := gb253) (o := .cells #[.int .i64 a0_0, .slice A0_1 l0_1.length c0_1] 27 (0, 0)) (qK BK253.out) hb); have n1_ := Aside0.mk (below_step (qB) hb); clear BK253; clear HB; have BK253 := n0_; have HB := n1_; clear n0_ n1_; (try clear hb); (try clear hb2); (try clear hk); (try clear hi); have hcz9_0 : w8.cell? ⟨gb253, 0, none⟩ = some (.int .i64 a0_0) := (blk_cell BK253.out 0).trans rfl; have hcz9_1 : w8.cell? ⟨gb253, 1, none⟩ = some (.slice A0_1 l0_1.length c0_1) := (blk_cell BK253.out 1).trans rfl; have hfz9_0 := blk_frozen BK253.out 0; have hfz9_1 := blk_frozen BK253.out 1))
      go_meet
      case rel => exact ⟨_, (decide ((l1.length : Int) > a0_0)), qS, H', ⟨by first | omega | exact Nat.le_refl _⟩, ⟨by (with_reducible repeat (first | refine blk_drewN ?_ _ | refine blk_drew ?_ | refine blk_alloc ?_ _)); exact BK253.out⟩, ⟨qB⟩⟩
    · replace c6 := Bool.eq_false_iff.mpr c6
      subst c6
      have H1 : (spec_Forced.j0 k l1 true a0_0 l0_1) = some (r1, r2, r3) := by rw [if_neg (show ¬ (false = true) by decide)] at H; exact H
      clear H
      have H := H1
      clear H1
      have H' := Aside0.mk H
      clear H
      have hcz10_0 : w4.cell? ⟨gb253, 0, none⟩ = some (.int .i64 a0_0) := (blk_cell BK253.out 0).trans rfl
      have hcz10_1 : w4.cell? ⟨gb253, 1, none⟩ = some (.slice A0_1 l0_1.length c0_1) := (blk_cell BK253.out 1).trans rfl
      have hfz10_0 := blk_frozen BK253.out 0
      have hfz10_1 := blk_frozen BK253.out 1
      go_wp2_with (first | ((with_reducible refine gate_callee (f := 10) rfl ?_); refine goesL_ (some 13) rfl rfl Try.func10 (by kernel_rfl) rfl #[.agg #[.int .i64 a0_0, .slice A0_1 l0_1.length c0_1]] rfl qG ?_; (with_reducible refine (spec_GoodCnf.calls k a0_0 _ _ l0_1 false _ ?side1 ?side2 A5.out).mono ?_); (case side1 => exact qC (Kd.C_below HR0_1.out HB.out)); (case side2 => exact HC0_1.out); rintro e w11 ⟨rfl, hb⟩; refine ⟨_, rfl, ?_⟩; have n0_ := Aside0.mk (blk_below (g := gb253) (o := .cells #[.int .i64 a0_0, .slice A0_1 l0_1.length c0_1] 27 (0, 0)) (qK BK253.out) hb); have n1_ := Aside0.mk (below_step (qB) hb); clear BK253; clear HB; have BK253 := n0_; have HB := n1_; clear n0_ n1_; (try clear hb); (try clear hb2); (try clear hk); (try clear hi)))
      go_meet
      case rel => exact ⟨_, (true), qS, H', ⟨by first | omega | exact Nat.le_refl _⟩, ⟨by (with_reducible repeat (first | refine blk_drewN ?_ _ | refine blk_drew ?_ | refine blk_alloc ?_ _)); exact BK253.out⟩, ⟨qB⟩⟩
  case rest =>
    clear HC3
    try clear c1
    try clear c2
    try clear p2
    try clear c6
    try clear c10
    try clear hcz10_0
    try clear hcz10_1
    try clear hcz7_0
    try clear hcz7_1
    try clear hcz9_0
    try clear hcz9_1
    try clear hfz10_0
    try clear hfz10_1
    try clear hfz7_0
    try clear hfz7_1
    try clear hfz9_0
    try clear hfz9_1
    obtain ⟨kq, x21_2, rfl, HA, HJ2, BK253, HB⟩ := hcut
    cases kq with
    | zero => exact absurd HA.out (by simp [spec_Forced.j0])
    | succ kj2 =>
      have H := HA.out
      clear HA
      simp only [spec_Forced.j0] at H
      by_cases c12 : x21_2 = true
      · subst c12
        have H1 : (some (([] : List Int), false, false)) = some (r1, r2, r3) := by rw [if_pos rfl] at H; exact H
        clear H
        have H := H1
        clear H1
        simp only [Option.some.injEq, Prod.mk.injEq] at H
        obtain ⟨rfl, rfl, rfl⟩ := H
        go_wp2
        go_ret3
        exact ⟨_, qE, by first | exact Kd.R_nil _ _ _ _ _ | exact Kd.N_nil _ _ _ _ _ | exact Kd.V_nil _ _ _ _ _ | exact Kd.Q_nil _ _ _ _ _ | exact Kd.S_nil _ _ _ _ _, qB⟩
      · replace c12 := Bool.eq_false_iff.mpr c12
        subst c12
        have H1 : (if 0 ≤ (wrap64 (a0_0 + 1)) then (if (wrap64 (a0_0 + 1) : Int).toNat ≤ 35184372088832 then (spec_Forced.l0 kj2 (List.replicate (wrap64 (a0_0 + 1) : Int).toNat 0) l1 (l1.length : Int) 0 a0_0 l0_1) else (none)) else (none)) = some (r1, r2, r3) := by rw [if_neg (show ¬ (false = true) by decide)] at H; exact H
        clear H
        have H := H1
        clear H1
        obtain ⟨ji13, hji13⟩ : ∃ j_ : Int, (wrap64 (a0_0 + 1)) = j_ := ⟨_, rfl⟩
        replace H : (if 0 ≤ (ji13) then (if (ji13 : Int).toNat ≤ 35184372088832 then (spec_Forced.l0 kj2 (List.replicate (ji13 : Int).toNat 0) l1 (l1.length : Int) 0 a0_0 l0_1) else (none)) else (none)) = some (r1, r2, r3) := by first | (rw [hji13] at H; exact H) | (simp only [hji13] at H ⊢; exact H)
        have hji13w : (IntKind.i64.wrap (a0_0 + 1)) = ji13 := (i64_w _).trans hji13
        by_cases c14 : 0 ≤ (ji13)
        · rw [if_pos c14] at H
          have c14b0 := eq_true c14
          have c14b1 : decide (0 ≤ (ji13)) = true := decide_eq_true c14
          clear c14
          by_cases c15 : (ji13 : Int).toNat ≤ 35184372088832
          · rw [if_pos c15] at H
            have c15b0 := eq_true c15
            have c15b1 : decide ((ji13 : Int).toNat ≤ 35184372088832) = true := decide_eq_true c15
            clear c15
            obtain ⟨y255, hy255⟩ : ∃ y_ : List Int, y_ = (List.replicate (ji13 : Int).toNat 0) := ⟨_, rfl⟩
            replace H : (spec_Forced.l0 kj2 y255 l1 (l1.length : Int) 0 a0_0 l0_1) = some (r1, r2, r3) := qY hy255 H
            have Ny255 := Aside0.mk hy255
            clear hy255
            have H' := Aside0.mk H
            clear H
            have hcz16_0 : wc.cell? ⟨gb253, 0, none⟩ = some (.int .i64 a0_0) := (blk_cell BK253.out 0).trans rfl
            have hcz16_1 : wc.cell? ⟨gb253, 1, none⟩ = some (.slice A0_1 l0_1.length c0_1) := (blk_cell BK253.out 1).trans rfl
            have hfz16_0 := blk_frozen BK253.out 0
            have hfz16_1 := blk_frozen BK253.out 1
            go_wp2_with (first | ((with_reducible refine gate_dst (N := 25) rfl ?_); (try (refine gate_guard (by rfl) ?_; dsimp only)); refine Kd.R_make (Kd.int .i64) _ 3 rfl (N := 25) rfl 39 _ _ rfl ji13 rfl rfl Try.underlying39 (.int .i64 0) 8 info3 rfl (by decide) (by omega) 0 (ok := fun _ => True) (okp := fun _ => True) rfl (fun _ hk => hk) trivial qD (Nat.le_trans (Nat.mul_le_mul_right _ (qD : ji13.toNat ≤ 35184372088832)) (by omega)) (Below.refl _ _) (Nat.le_refl _) ?_; intro v256 w17 ho18 hb hg_ hnew_; clear hg_ hnew_; (first | rw [← Ny255.out] at ho18 | (simp only [Int.reduceToNat] at ho18; rw [← Ny255.out] at ho18)); have n0_ := Aside0.mk (Kd.R_lower ho18 (below_size (qB))); have n1_ := Aside0.mk (blk_below (g := gb253) (o := .cells #[.int .i64 a0_0, .slice A0_1 l0_1.length c0_1] 27 (0, 0)) (qK BK253.out) hb); have n2_ := Aside0.mk (below_step (qB) hb); clear BK253; clear HB; have HO257 := n0_; have BK253 := n1_; have HB := n2_; clear n0_ n1_ n2_; clear hb ho18))
            go_loopg [28] kj2 (fun kq v28 w' => ∃ (x7_2 : List Int) (x28_2 : Int), v28 = .int .i64 x28_2 ∧ Aside0 (spec_Forced.l0 kq x7_2 l1 (l1.length : Int) x28_2 a0_0 l0_1 = some (r1, r2, r3)) ∧ Aside0 (kq ≤ kj2) ∧ Aside0 (Kd.R (Kd.int .i64) 3 w' w.heap.size (fun _ => True) v256 x7_2) ∧ Aside0 (w'.heap[gb253]? = some (.cells #[.int .i64 a0_0, (.slice A0_1 l0_1.length c0_1)] 27 (0, 0))) ∧ Aside0 (Below w.heap.size w w'))
            case atStart => exact ⟨(y255), (0), qS, H', ⟨Nat.le_refl _⟩, ⟨qR HO257.out⟩, ⟨by (with_reducible repeat (first | refine blk_drewN ?_ _ | refine blk_drew ?_ | refine blk_alloc ?_ _)); exact BK253.out⟩, ⟨qB⟩⟩
            case round =>
              clear H'
              try clear c1
              try clear c2
              try clear p2
              try clear c6
              try clear p6
              try clear c10
              try clear c12
              try clear c14
              try clear c14b0
              try clear c14b1
              try clear c15
              try clear c15b0
              try clear c15b1
              try clear hcz10_0
              try clear hcz10_1
              try clear hcz16_0
              try clear hcz16_1
              try clear hcz7_0
              try clear hcz7_1
              try clear hcz9_0
              try clear hcz9_1
              try clear hfz10_0
              try clear hfz10_1
              try clear hfz16_0
              try clear hfz16_1
              try clear hfz7_0
              try clear hfz7_1
              try clear hfz9_0
              try clear hfz9_1
              try clear p2
              obtain ⟨x7_2, x28_2, rfl, HA, HK2, HO_7, BK253, HB⟩ := hrel
              cases gk with
              | zero => exact absurd HA.out (by simp [spec_Forced.l0])
              | succ k2 =>
                have H := HA.out
                clear HA
                simp only [spec_Forced.l0] at H
                by_cases c19 : x28_2 < (l1.length : Int)
                · rw [if_pos c19] at H
                  have c19b0 : decide (x28_2 < (l1.length : Int)) = true := decide_eq_true c19
                  clear c19
                  by_cases c20 : 0 ≤ x28_2
                  · rw [if_pos c20] at H
                    have c20b0 : decide (0 ≤ x28_2) = true := decide_eq_true c20
                    clear c20
                    by_cases c21 : x28_2 < (l1.length : Int)
                    · rw [if_pos c21] at H
                      have c21b0 : decide (x28_2 < (l1.length : Int)) = true := decide_eq_true c21
                      clear c21
                      have HC22 := Aside0.mk H
                      clear H
                      have p258 : 0 ≤ (x28_2 : Int) := qD
                      have q258 : x28_2 < (l1.length : Int) := qD
                      obtain ⟨ad258, e258, hx258_0⟩ := Kd.at_int HR1.out x28_2 p258 q258
                      cases e258
                      replace hx258_0 := (HB.out.cell (World.block_lt_of_cell? w _ hx258_0)).trans hx258_0
                      replace p258 := eq_true p258
                      replace q258 := eq_true q258
                      go_upto_region 7 with (fail)
                      go_cut [49] (fun v49 wc => ∃ (kq : Nat) (x49_21 : Bool), v49 = .bool x49_21 ∧ Aside0 (spec_Forced.j2 kq x7_2 (rd l1 x28_2) l1 (l1.length : Int) x28_2 x49_21 a0_0 l0_1 = some (r1, r2, r3)) ∧ Aside0 (kq ≤ k2) ∧ Aside0 (Kd.R (Kd.int .i64) 3 wc w.heap.size (fun _ => True) v256 x7_2) ∧ Aside0 (wc.heap[gb253]? = some (.cells #[.int .i64 a0_0, (.slice A0_1 l0_1.length c0_1)] 27 (0, 0))) ∧ Aside0 (Below w.heap.size w wc))
                      case first =>
                        have H := HC22.out
                        clear HC22
                        by_cases c23 : (rd l1 x28_2) = 0
                        · rw [if_pos c23] at H
                          have c23b0 : ((rd l1 x28_2) == 0) = true := beq_iff_eq.mpr c23
                          have c23b1 : ((rd l1 x28_2) != 0) = false := bne_eq_false_iff_eq.mpr c23
                          clear c23
                          (first | rw [c23b0] | (simp only [i64_w, i32_w]; rw [c23b0]) | skip)
                          have H' := Aside0.mk H
                          clear H
                          go_wp2
                          go_meet
                          case rel => exact ⟨_, (true), qS, H', ⟨by have := HJ2.out; have := HK2.out; first | omega | exact Nat.le_refl _⟩, ⟨qR HO_7.out⟩, ⟨by (with_reducible repeat (first | refine blk_drewN ?_ _ | refine blk_drew ?_ | refine blk_alloc ?_ _)); exact BK253.out⟩, ⟨qB⟩⟩
                        · rw [if_neg c23] at H
                          have c23b0 : ((rd l1 x28_2) == 0) = false := beq_eq_false_iff_ne.mpr c23
                          have c23b1 : ((rd l1 x28_2) != 0) = true := bne_iff_ne.mpr c23
                          (first | rw [c23b0] | (simp only [i64_w, i32_w]; rw [c23b0]) | skip)
                          replace H := Option.bind_eq_some_iff.mp H
                          obtain ⟨t259, A240, H⟩ := H
                          replace H : (if t259 = true then ((spec_l6Sign.f x7_2 (rd l1 x28_2)).bind fun t260 => (spec_Forced.j2 k2 x7_2 (rd l1 x28_2) l1 (l1.length : Int) x28_2 (t260 != 0) a0_0 l0_1)) else (spec_Forced.j2 k2 x7_2 (rd l1 x28_2) l1 (l1.length : Int) x28_2 true a0_0 l0_1)) = some (r1, r2, r3) := H
                          have A24 := Aside0.mk A240
                          clear A240
                          by_cases c25 : t259 = true
                          · subst c25
                            have H1 : ((spec_l6Sign.f x7_2 (rd l1 x28_2)).bind fun t260 => (spec_Forced.j2 k2 x7_2 (rd l1 x28_2) l1 (l1.length : Int) x28_2 (t260 != 0) a0_0 l0_1)) = some (r1, r2, r3) := by rw [if_pos rfl] at H; exact H
                            clear H
                            have H := H1
                            clear H1
                            replace H := Option.bind_eq_some_iff.mp H
                            obtain ⟨t260, A260, H⟩ := H
                            replace H : (spec_Forced.j2 k2 x7_2 (rd l1 x28_2) l1 (l1.length : Int) x28_2 (t260 != 0) a0_0 l0_1) = some (r1, r2, r3) := H
                            have A26 := Aside0.mk A260
                            clear A260
                            have H' := Aside0.mk H
                            clear H
                            have hcz27_0 : wr.cell? ⟨gb253, 0, none⟩ = some (.int .i64 a0_0) := (blk_cell BK253.out 0).trans rfl
                            have hcz27_1 : wr.cell? ⟨gb253, 1, none⟩ = some (.slice A0_1 l0_1.length c0_1) := (blk_cell BK253.out 1).trans rfl
                            have hfz27_0 := blk_frozen BK253.out 0
                            have hfz27_1 := blk_frozen BK253.out 1
                            go_wp2_with (first | (go_at_call 34; (with_reducible refine (spec_l1In.calls (rd l1 x28_2) (wrap64 (-a0_0)) a0_0 true _ A24.out).mono ?_); rintro e w' ⟨rfl, ⟨nd, rfl⟩⟩; obtain ⟨Ao28, co28, eo28⟩ := Kd.R_slice HO_7.out; subst eo28) | (go_at_call 42; (with_reducible refine (spec_l6Sign.calls _ _ x7_2 (rd l1 x28_2) t260 _ ?side1 ?side2 A26.out).mono ?_); (case side1 => repeat (first | exact (Kd.R_reads' HO_7.out).2.2 | (with_reducible refine Kd.C_alloc ?_ _) | (with_reducible refine Kd.C_drewN ?_ _) | (with_reducible refine Kd.C_drew ?_))); (case side2 => exact (Kd.R_reads' HO_7.out).2.1); rintro e w' ⟨rfl, ⟨nd, rfl⟩⟩))
                            go_meet
                            case rel => exact ⟨_, ((t260 != 0)), qS, H', ⟨by have := HJ2.out; have := HK2.out; first | omega | exact Nat.le_refl _⟩, ⟨qR HO_7.out⟩, ⟨by (with_reducible repeat (first | refine blk_drewN ?_ _ | refine blk_drew ?_ | refine blk_alloc ?_ _)); exact BK253.out⟩, ⟨qB⟩⟩
                          · replace c25 := Bool.eq_false_iff.mpr c25
                            subst c25
                            have H1 : (spec_Forced.j2 k2 x7_2 (rd l1 x28_2) l1 (l1.length : Int) x28_2 true a0_0 l0_1) = some (r1, r2, r3) := by rw [if_neg (show ¬ (false = true) by decide)] at H; exact H
                            clear H
                            have H := H1
                            clear H1
                            have H' := Aside0.mk H
                            clear H
                            have hcz29_0 : wr.cell? ⟨gb253, 0, none⟩ = some (.int .i64 a0_0) := (blk_cell BK253.out 0).trans rfl
                            have hcz29_1 : wr.cell? ⟨gb253, 1, none⟩ = some (.slice A0_1 l0_1.length c0_1) := (blk_cell BK253.out 1).trans rfl
                            have hfz29_0 := blk_frozen BK253.out 0
                            have hfz29_1 := blk_frozen BK253.out 1
                            go_wp2_with (first | (go_at_call 34; (with_reducible refine (spec_l1In.calls (rd l1 x28_2) (wrap64 (-a0_0)) a0_0 false _ A24.out).mono ?_); rintro e w' ⟨rfl, ⟨nd, rfl⟩⟩))
                            go_meet
                            case rel => exact ⟨_, (true), qS, H', ⟨by have := HJ2.out; have := HK2.out; first | omega | exact Nat.le_refl _⟩, ⟨qR HO_7.out⟩, ⟨by (with_reducible repeat (first | refine blk_drewN ?_ _ | refine blk_drew ?_ | refine blk_alloc ?_ _)); exact BK253.out⟩, ⟨qB⟩⟩
                      case rest =>
                        clear HC22
                        try clear c1
                        try clear c2
                        try clear p2
                        try clear q2
                        try clear hx2
                        try clear c6
                        try clear p6
                        try clear c10
                        try clear c12
                        try clear c14
                        try clear c14b0
                        try clear c14b1
                        try clear c15
                        try clear c15b0
                        try clear c15b1
                        try clear c19
                        try clear c19b0
                        try clear c20
                        try clear c20b0
                        try clear c21
                        try clear c21b0
                        try clear c23
                        try clear c23b0
                        try clear c23b1
                        try clear c25
                        try clear p25
                        try clear q25
                        try clear hx25
                        try clear hcz10_0
                        try clear hcz10_1
                        try clear hcz16_0
                        try clear hcz16_1
                        try clear hcz27_0
                        try clear hcz27_1
                        try clear hcz29_0
                        try clear hcz29_1
                        try clear hcz7_0
                        try clear hcz7_1
                        try clear hcz9_0
                        try clear hcz9_1
                        try clear hfz10_0
                        try clear hfz10_1
                        try clear hfz16_0
                        try clear hfz16_1
                        try clear hfz27_0
                        try clear hfz27_1
                        try clear hfz29_0
                        try clear hfz29_1
                        try clear hfz7_0
                        try clear hfz7_1
                        try clear hfz9_0
                        try clear hfz9_1
                        try clear hx258_0
                        try clear p2
                        try clear p258
                        try clear p6
                        try clear q258
                        obtain ⟨kq, x49_21, rfl, HA, HJ21, HO_7, BK253, HB⟩ := hcut
                        cases kq with
                        | zero => exact absurd HA.out (by simp [spec_Forced.j2])
                        | succ kj21 =>
                          have H := HA.out
                          clear HA
                          simp only [spec_Forced.j2] at H
                          by_cases c30 : x49_21 = true
                          · subst c30
                            have H1 : (some (([] : List Int), false, false)) = some (r1, r2, r3) := by rw [if_pos rfl] at H; exact H
                            clear H
                            have H := H1
                            clear H1
                            simp only [Option.some.injEq, Prod.mk.injEq] at H
                            obtain ⟨rfl, rfl, rfl⟩ := H
                            go_wp2
                            go_ret3
                            exact ⟨_, by first | rfl | (simp [errW_none, errW_some] <;> rfl) | (simp only [← hji13]; first | rfl | (simp [errW_none, errW_some] <;> rfl)) | (simp [*, errW_none, errW_some] <;> rfl), by first | exact Kd.R_nil _ _ _ _ _ | exact Kd.N_nil _ _ _ _ _ | exact Kd.V_nil _ _ _ _ _ | exact Kd.Q_nil _ _ _ _ _ | exact Kd.S_nil _ _ _ _ _, qB⟩
                          · replace c30 := Bool.eq_false_iff.mpr c30
                            subst c30
                            have H1 : (if (rd l1 x28_2) < 0 then (if 0 ≤ (wrap64 (-(rd l1 x28_2))) then (if (wrap64 (-(rd l1 x28_2))) < (x7_2.length : Int) then (spec_Forced.l0 kj21 (x7_2.set ((wrap64 (-(rd l1 x28_2))) : Int).toNat (-1)) l1 (l1.length : Int) (wrap64 (x28_2 + 1)) a0_0 l0_1) else (none)) else (none)) else (if 0 ≤ (rd l1 x28_2) then (if (rd l1 x28_2) < (x7_2.length : Int) then (spec_Forced.l0 kj21 (x7_2.set ((rd l1 x28_2) : Int).toNat 1) l1 (l1.length : Int) (wrap64 (x28_2 + 1)) a0_0 l0_1) else (none)) else (none))) = some (r1, r2, r3) := by rw [if_neg (show ¬ (false = true) by decide)] at H; exact H
                            clear H
                            have H := H1
                            clear H1
                            by_cases c31 : (rd l1 x28_2) < 0
                            · rw [if_pos c31] at H
                              have c31b0 : decide ((rd l1 x28_2) < 0) = true := decide_eq_true c31
                              clear c31
                              obtain ⟨ji32, hji32⟩ : ∃ j_ : Int, (wrap64 (-(rd l1 x28_2))) = j_ := ⟨_, rfl⟩
                              replace H : (if 0 ≤ (ji32) then (if (ji32) < (x7_2.length : Int) then (spec_Forced.l0 kj21 (x7_2.set ((ji32) : Int).toNat (-1)) l1 (l1.length : Int) (wrap64 (x28_2 + 1)) a0_0 l0_1) else (none)) else (none)) = some (r1, r2, r3) := by first | (rw [hji32] at H; exact H) | (simp only [hji32] at H ⊢; exact H)
                              have hji32w : (IntKind.i64.wrap (-(rd l1 x28_2))) = ji32 := (i64_w _).trans hji32
                              by_cases c33 : 0 ≤ (ji32)
                              · rw [if_pos c33] at H
                                have c33b0 : decide (0 ≤ (ji32)) = true := decide_eq_true c33
                                clear c33
                                by_cases c34 : (ji32) < (x7_2.length : Int)
                                · rw [if_pos c34] at H
                                  have c34b0 : decide ((ji32) < (x7_2.length : Int)) = true := decide_eq_true c34
                                  clear c34
                                  obtain ⟨y261, hy261⟩ : ∃ y_ : List Int, y_ = (x7_2.set ((ji32) : Int).toNat (-1)) := ⟨_, rfl⟩
                                  replace H : (spec_Forced.l0 kj21 y261 l1 (l1.length : Int) (wrap64 (x28_2 + 1)) a0_0 l0_1) = some (r1, r2, r3) := qY hy261 H
                                  have Ny261 := Aside0.mk hy261
                                  clear hy261
                                  have H' := Aside0.mk H
                                  clear H
                                  have p35 : 0 ≤ ((ji32) : Int) := qD
                                  have q35 : ((ji32) : Int) < ((x7_2.length : Int) : Int) := qD
                                  obtain ⟨go35, co35, eo35, gb35, gl35, cl35, HG35⟩ := Kd.R_form HO_7.out (by omega)
                                  (first | cases eo35 | (injection eo35 with ea_ en_ ec_; (first | subst ea_ | (injection ea_ with ea_; subst ea_)); subst ec_; clear en_))
                                  have GB35 := Aside0.mk gb35
                                  have GG35 := Aside0.mk HG35
                                  clear gb35 gl35 HG35
                                  obtain ⟨hx35_0, hf35_0⟩ := Kd.R_celln 0 HO_7.out ((ji32) : Int) p35 q35
                                  replace p35 := eq_true p35
                                  replace q35 := eq_true q35
                                  have HP36 := Kd.R_putg HO_7.out ((ji32) : Int) (-1)
                                  go_wp2_with (first | ((with_reducible refine gate_store (t := 3) (p := 55) rfl ?_); refine store_event (t := 3) (p := 55) (v := ?vo_w37) (w1 := (wc.setCell ⟨go35, ((ji32) : Int).toNat, none⟩ (.int .i64 (-1)))) ?hg ?ho ?hn ?hr ?_; (case ho => rfl); (case hg => rfl); (case hn => rfl); (case hr => first | (go_simp; done) | (go_simp; rfl)); intro w37 hw; have hg : wc.grownBy w37 (some go35) := (by rw [hw]; exact HP36.2); have hp_ : Kd.R (Kd.int .i64) 3 w37 w.heap.size (fun _ => True) (.slice (some ⟨go35, 0, none⟩) x7_2.length co35) y261 := (by rw [hw, Ny261.out]; exact HP36.1); clear HP36; have n0_ := Aside0.mk (hp_); have n1_ := Aside0.mk (blk_grown (g := gb253) (o := .cells #[.int .i64 a0_0, .slice A0_1 l0_1.length c0_1] 27 (0, 0)) (qK BK253.out) hg (Kd.R_ne HO_7.out BK253.out (by decide))); have n2_ := Aside0.mk ((by rw [hw]; exact below_set (HB.out) GB35.out : Below w.heap.size w w37)); clear HO_7; clear BK253; clear HB; have HO_7 := n0_; have BK253 := n1_; have HB := n2_; clear n0_ n1_ n2_; clear hg hw hp_))
                                  go_roundg kj21
                                  case measure => have := HJ2.out; have := HK2.out; have := HJ21.out; omega
                                  case rel => exact ⟨(y261), (wrap64 (x28_2 + 1)), qS, H', ⟨by have := HJ2.out; have := HK2.out; have := HJ21.out; omega⟩, ⟨qR HO_7.out⟩, ⟨by (with_reducible repeat (first | refine blk_drewN ?_ _ | refine blk_drew ?_ | refine blk_alloc ?_ _)); exact BK253.out⟩, ⟨qB⟩⟩
                                · rw [if_neg c34] at H
                                  exact absurd H (by simp)
                              · rw [if_neg c33] at H
                                exact absurd H (by simp)
                            · rw [if_neg c31] at H
                              have c31b0 : decide ((rd l1 x28_2) < 0) = false := decide_eq_false c31
                              clear c31
                              by_cases c38 : 0 ≤ (rd l1 x28_2)
                              · rw [if_pos c38] at H
                                have c38b0 : decide (0 ≤ (rd l1 x28_2)) = true := decide_eq_true c38
                                clear c38
                                by_cases c39 : (rd l1 x28_2) < (x7_2.length : Int)
                                · rw [if_pos c39] at H
                                  have c39b0 : decide ((rd l1 x28_2) < (x7_2.length : Int)) = true := decide_eq_true c39
                                  clear c39
                                  obtain ⟨y262, hy262⟩ : ∃ y_ : List Int, y_ = (x7_2.set ((rd l1 x28_2) : Int).toNat 1) := ⟨_, rfl⟩
                                  replace H : (spec_Forced.l0 kj21 y262 l1 (l1.length : Int) (wrap64 (x28_2 + 1)) a0_0 l0_1) = some (r1, r2, r3) := qY hy262 H
                                  have Ny262 := Aside0.mk hy262
                                  clear hy262
                                  have H' := Aside0.mk H
                                  clear H
                                  have p40 : 0 ≤ ((rd l1 x28_2) : Int) := qD
                                  have q40 : ((rd l1 x28_2) : Int) < ((x7_2.length : Int) : Int) := qD
                                  obtain ⟨go40, co40, eo40, gb40, gl40, cl40, HG40⟩ := Kd.R_form HO_7.out (by omega)
                                  (first | cases eo40 | (injection eo40 with ea_ en_ ec_; (first | subst ea_ | (injection ea_ with ea_; subst ea_)); subst ec_; clear en_))
                                  have GB40 := Aside0.mk gb40
                                  have GG40 := Aside0.mk HG40
                                  clear gb40 gl40 HG40
                                  obtain ⟨hx40_0, hf40_0⟩ := Kd.R_celln 0 HO_7.out ((rd l1 x28_2) : Int) p40 q40
                                  replace p40 := eq_true p40
                                  replace q40 := eq_true q40
                                  have HP41 := Kd.R_putg HO_7.out ((rd l1 x28_2) : Int) 1
                                  go_wp2_with (first | ((with_reducible refine gate_store (t := 3) (p := 58) rfl ?_); refine store_event (t := 3) (p := 58) (v := ?vo_w42) (w1 := (wc.setCell ⟨go40, ((rd l1 x28_2) : Int).toNat, none⟩ (.int .i64 1))) ?hg ?ho ?hn ?hr ?_; (case ho => rfl); (case hg => rfl); (case hn => rfl); (case hr => first | (go_simp; done) | (go_simp; rfl)); intro w42 hw; have hg : wc.grownBy w42 (some go40) := (by rw [hw]; exact HP41.2); have hp_ : Kd.R (Kd.int .i64) 3 w42 w.heap.size (fun _ => True) (.slice (some ⟨go40, 0, none⟩) x7_2.length co40) y262 := (by rw [hw, Ny262.out]; exact HP41.1); clear HP41; have n0_ := Aside0.mk (hp_); have n1_ := Aside0.mk (blk_grown (g := gb253) (o := .cells #[.int .i64 a0_0, .slice A0_1 l0_1.length c0_1] 27 (0, 0)) (qK BK253.out) hg (Kd.R_ne HO_7.out BK253.out (by decide))); have n2_ := Aside0.mk ((by rw [hw]; exact below_set (HB.out) GB40.out : Below w.heap.size w w42)); clear HO_7; clear BK253; clear HB; have HO_7 := n0_; have BK253 := n1_; have HB := n2_; clear n0_ n1_ n2_; clear hg hw hp_))
                                  go_roundg kj21
                                  case measure => have := HJ2.out; have := HK2.out; have := HJ21.out; omega
                                  case rel => exact ⟨(y262), (wrap64 (x28_2 + 1)), qS, H', ⟨by have := HJ2.out; have := HK2.out; have := HJ21.out; omega⟩, ⟨qR HO_7.out⟩, ⟨by (with_reducible repeat (first | refine blk_drewN ?_ _ | refine blk_drew ?_ | refine blk_alloc ?_ _)); exact BK253.out⟩, ⟨qB⟩⟩
                                · rw [if_neg c39] at H
                                  exact absurd H (by simp)
                              · rw [if_neg c38] at H
                                exact absurd H (by simp)
                    · rw [if_neg c21] at H
                      exact absurd H (by simp)
                  · rw [if_neg c20] at H
                    exact absurd H (by simp)
                · rw [if_neg c19] at H
                  have c19b0 : decide (x28_2 < (l1.length : Int)) = false := decide_eq_false c19
                  clear c19
                  replace H := Option.bind_eq_some_iff.mp H
                  obtain ⟨⟨t263, t264⟩, A430, H⟩ := H
                  replace H : (if t263 = true then (some (([] : List Int), true, true)) else (spec_Forced.l1 k2 t264 ([] : List Int) 1 a0_0 l0_1)) = some (r1, r2, r3) := H
                  have A43 := Aside0.mk A430
                  clear A430
                  by_cases c44 : t263 = true
                  · subst c44
                    have H1 : (some (([] : List Int), true, true)) = some (r1, r2, r3) := by rw [if_pos rfl] at H; exact H
                    clear H
                    have H := H1
                    clear H1
                    simp only [Option.some.injEq, Prod.mk.injEq] at H
                    obtain ⟨rfl, rfl, rfl⟩ := H
                    have hcz45_0 : wr.cell? ⟨gb253, 0, none⟩ = some (.int .i64 a0_0) := (blk_cell BK253.out 0).trans rfl
                    have hcz45_1 : wr.cell? ⟨gb253, 1, none⟩ = some (.slice A0_1 l0_1.length c0_1) := (blk_cell BK253.out 1).trans rfl
                    have hfz45_0 := blk_frozen BK253.out 0
                    have hfz45_1 := blk_frozen BK253.out 1
                    obtain ⟨Ao46, co46, eo46⟩ := Kd.R_slice HO_7.out
                    subst eo46
                    go_wp2_with (first | ((with_reducible refine gate_callee (f := 44) rfl ?_); refine goesL_ (some 62) rfl rfl Try.func44 (by kernel_rfl) rfl #[.agg #[.int .i64 a0_0, .slice A0_1 l0_1.length c0_1], .slice Ao46 x7_2.length co46] rfl qG ?_; (with_reducible refine (spec_l6Force.calls k2 a0_0 _ _ l0_1 (fun k_ => some k_ = (.slice Ao46 x7_2.length co46 : Value).ownBlock) (.slice Ao46 x7_2.length co46) x7_2 true t264 w _ ?side1 ?side2 ?side3 ?side4 A43.out).mono ?_); (case side1 => repeat (first | (with_reducible first | exact HB.out | apply below_alloc | apply pw_below_drewN | apply below_drew1 | refine below_set ?_ GE253.out) | exact HB.out)); (case side2 => exact Kd.C_kept_came (Kd.heap_slice 3 (Kd.heap_int .i64)) HR0_1.out (qB) (fun k_ hs_ => (fun e_ => Kd.R_base HO_7.out k_ e_.symm) hs_)); (case side3 => exact HC0_1.out); (case side4 => exact Kd.R_tight rfl HO_7.out); rintro e w47 ⟨rfl, hy0, hb, hkp⟩; refine ⟨_, rfl, ?_⟩; have n0_ := Aside0.mk (Kd.R_reok rfl hy0 (fun k_ e_ => HO_7.out.1 k_ e_)); have n1_ := Aside0.mk (blk_kept (qK BK253.out) hkp (fun hs_ => (fun e_ => (Kd.R_ne HO_7.out BK253.out (by decide)) e_) hs_)); have n2_ := Aside0.mk (hb); clear HO_7; clear BK253; clear HB; have HO_7 := n0_; have BK253 := n1_; have HB := n2_; clear n0_ n1_ n2_; (try clear hb); (try clear hkp); (try clear hy0)))
                    go_ret3
                    exact ⟨_, by first | rfl | (simp [errW_none, errW_some] <;> rfl) | (simp only [← hji13]; first | rfl | (simp [errW_none, errW_some] <;> rfl)) | (simp [*, errW_none, errW_some] <;> rfl), by first | exact Kd.R_nil _ _ _ _ _ | exact Kd.N_nil _ _ _ _ _ | exact Kd.V_nil _ _ _ _ _ | exact Kd.Q_nil _ _ _ _ _ | exact Kd.S_nil _ _ _ _ _, qB⟩
                  · replace c44 := Bool.eq_false_iff.mpr c44
                    subst c44
                    have H1 : (spec_Forced.l1 k2 t264 ([] : List Int) 1 a0_0 l0_1) = some (r1, r2, r3) := by rw [if_neg (show ¬ (false = true) by decide)] at H; exact H
                    clear H
                    have H := H1
                    clear H1
                    have H' := Aside0.mk H
                    clear H
                    have hcz48_0 : wr.cell? ⟨gb253, 0, none⟩ = some (.int .i64 a0_0) := (blk_cell BK253.out 0).trans rfl
                    have hcz48_1 : wr.cell? ⟨gb253, 1, none⟩ = some (.slice A0_1 l0_1.length c0_1) := (blk_cell BK253.out 1).trans rfl
                    have hfz48_0 := blk_frozen BK253.out 0
                    have hfz48_1 := blk_frozen BK253.out 1
                    obtain ⟨Ao49, co49, eo49⟩ := Kd.R_slice HO_7.out
                    subst eo49
                    go_wp2_with (first | ((with_reducible refine gate_callee (f := 44) rfl ?_); refine goesL_ (some 62) rfl rfl Try.func44 (by kernel_rfl) rfl #[.agg #[.int .i64 a0_0, .slice A0_1 l0_1.length c0_1], .slice Ao49 x7_2.length co49] rfl qG ?_; (with_reducible refine (spec_l6Force.calls k2 a0_0 _ _ l0_1 (fun k_ => some k_ = (.slice Ao49 x7_2.length co49 : Value).ownBlock) (.slice Ao49 x7_2.length co49) x7_2 false t264 w _ ?side1 ?side2 ?side3 ?side4 A43.out).mono ?_); (case side1 => repeat (first | (with_reducible first | exact HB.out | apply below_alloc | apply pw_below_drewN | apply below_drew1 | refine below_set ?_ GE253.out) | exact HB.out)); (case side2 => exact Kd.C_kept_came (Kd.heap_slice 3 (Kd.heap_int .i64)) HR0_1.out (qB) (fun k_ hs_ => (fun e_ => Kd.R_base HO_7.out k_ e_.symm) hs_)); (case side3 => exact HC0_1.out); (case side4 => exact Kd.R_tight rfl HO_7.out); rintro e w50 ⟨rfl, hy0, hb, hkp⟩; refine ⟨_, rfl, ?_⟩; have n0_ := Aside0.mk (Kd.R_reok rfl hy0 (fun k_ e_ => HO_7.out.1 k_ e_)); have n1_ := Aside0.mk (blk_kept (qK BK253.out) hkp (fun hs_ => (fun e_ => (Kd.R_ne HO_7.out BK253.out (by decide)) e_) hs_)); have n2_ := Aside0.mk (hb); clear HO_7; clear BK253; clear HB; have HO_7 := n0_; have BK253 := n1_; have HB := n2_; clear n0_ n1_ n2_; (try clear hb); (try clear hkp); (try clear hy0)))
                    go_loopg [10, 11] k2 (fun kq v10 v11 w' => ∃ (x10_3 : List Int) (x11_3 : Int), v11 = .int .i64 x11_3 ∧ Aside0 (spec_Forced.l1 kq t264 x10_3 x11_3 a0_0 l0_1 = some (r1, r2, r3)) ∧ Aside0 (kq ≤ k2) ∧ Aside0 (Kd.R (Kd.int .i64) 3 w' w.heap.size (fun k_ => some k_ ≠ (v10 : Value).ownBlock) (.slice Ao49 x7_2.length co49) t264) ∧ Aside0 (Kd.R (Kd.int .i64) 3 w' w.heap.size (fun k_ => some k_ ≠ ((.slice Ao49 x7_2.length co49) : Value).ownBlock) v10 x10_3) ∧ Aside0 (w'.heap[gb253]? = some (.cells #[.int .i64 a0_0, (.slice A0_1 l0_1.length c0_1)] 27 (0, 0))) ∧ Aside0 (Below w.heap.size w w'))
                    case atStart => exact ⟨(([] : List Int)), (1), qS, H', ⟨Nat.le_refl _⟩, ⟨by (with_reducible repeat (first | apply Kd.R_alloc | apply Kd.R_drewN | apply Kd.R_drew)); exact Kd.R_mono HO_7.out (fun _ hk => (by simp [Value.ownBlock]))⟩, ⟨by first | exact Kd.R_nil _ _ _ _ _ | exact Kd.N_nil _ _ _ _ _ | exact Kd.V_nil _ _ _ _ _ | exact Kd.Q_nil _ _ _ _ _ | exact Kd.S_nil _ _ _ _ _⟩, ⟨by (with_reducible repeat (first | refine blk_drewN ?_ _ | refine blk_drew ?_ | refine blk_alloc ?_ _)); exact BK253.out⟩, ⟨qB⟩⟩
                    case round =>
                      clear H'
                      try clear c1
                      try clear c2
                      try clear p2
                      try clear q2
                      try clear hx2
                      try clear c3
                      try clear p3
                      try clear q3
                      try clear hx3
                      try clear hf3
                      try clear c4
                      try clear p4
                      try clear q4
                      try clear hx4
                      try clear hf4
                      try clear c6
                      try clear p6
                      try clear c10
                      try clear c12
                      try clear c14
                      try clear c14b0
                      try clear c14b1
                      try clear c15
                      try clear c15b0
                      try clear c15b1
                      try clear c19
                      try clear c19b0
                      try clear c20
                      try clear c20b0
                      try clear c21
                      try clear c21b0
                      try clear c23
                      try clear c23b0
                      try clear c23b1
                      try clear c25
                      try clear p25
                      try clear q25
                      try clear hx25
                      try clear c30
                      try clear c31
                      try clear c31b0
                      try clear c33
                      try clear c33b0
                      try clear c34
                      try clear c34b0
                      try clear p35
                      try clear q35
                      try clear hx35
                      try clear hf35
                      try clear c38
                      try clear c38b0
                      try clear c39
                      try clear c39b0
                      try clear p40
                      try clear q40
                      try clear hx40
                      try clear hf40
                      try clear c44
                      try clear hcz10_0
                      try clear hcz10_1
                      try clear hcz16_0
                      try clear hcz16_1
                      try clear hcz27_0
                      try clear hcz27_1
                      try clear hcz29_0
                      try clear hcz29_1
                      try clear hcz45_0
                      try clear hcz45_1
                      try clear hcz48_0
                      try clear hcz48_1
                      try clear hcz7_0
                      try clear hcz7_1
                      try clear hcz9_0
                      try clear hcz9_1
                      try clear hfz10_0
                      try clear hfz10_1
                      try clear hfz16_0
                      try clear hfz16_1
                      try clear hfz27_0
                      try clear hfz27_1
                      try clear hfz29_0
                      try clear hfz29_1
                      try clear hfz45_0
                      try clear hfz45_1
                      try clear hfz48_0
                      try clear hfz48_1
                      try clear hfz7_0
                      try clear hfz7_1
                      try clear hfz9_0
                      try clear hfz9_1
                      try clear hx258_0
                      try clear hx35_0
                      try clear hx40_0
                      try clear p2
                      try clear p25
                      try clear p258
                      try clear p35
                      try clear p40
                      try clear p6
                      try clear q2
                      try clear q25
                      try clear q258
                      try clear q35
                      try clear q40
                      obtain ⟨x10_3, x11_3, rfl, HA, HK3, HO_7, HO_10, BK253, HB⟩ := hrel
                      have hl7_3 := (Kd.R_reads' HO_7.out).1
                      rw [hl7_3] at HO_7
                      (try simp only [hl7_3])
                      (try simp only [hl7_3] at BK253)
                      (try simp only [hl7_3] at HO_10)
                      cases gk with
                      | zero => exact absurd HA.out (by simp [spec_Forced.l1])
                      | succ k3 =>
                        have H := HA.out
                        clear HA
                        simp only [spec_Forced.l1] at H
                        by_cases c51 : x11_3 ≤ a0_0
                        · rw [if_pos c51] at H
                          have c51b0 : decide (x11_3 ≤ a0_0) = true := decide_eq_true c51
                          clear c51
                          by_cases c52 : 0 ≤ x11_3
                          · rw [if_pos c52] at H
                            have c52b0 : decide (0 ≤ x11_3) = true := decide_eq_true c52
                            clear c52
                            by_cases c53 : x11_3 < (t264.length : Int)
                            · rw [if_pos c53] at H
                              have c53b0 : decide (x11_3 < (t264.length : Int)) = true := decide_eq_true c53
                              clear c53
                              by_cases c54 : (rd t264 x11_3) = 0
                              · rw [if_pos c54] at H
                                have c54b0 : ((rd t264 x11_3) == 0) = true := beq_iff_eq.mpr c54
                                have c54b1 : ((rd t264 x11_3) != 0) = false := bne_eq_false_iff_eq.mpr c54
                                clear c54
                                have H' := Aside0.mk H
                                clear H
                                have hcz55_0 : wr.cell? ⟨gb253, 0, none⟩ = some (.int .i64 a0_0) := (blk_cell BK253.out 0).trans rfl
                                have hcz55_1 : wr.cell? ⟨gb253, 1, none⟩ = some (.slice A0_1 l0_1.length c0_1) := (blk_cell BK253.out 1).trans rfl
                                have hfz55_0 := blk_frozen BK253.out 0
                                have hfz55_1 := blk_frozen BK253.out 1
                                have p265 : 0 ≤ (x11_3 : Int) := qD
                                have q265 : x11_3 < (t264.length : Int) := qD
                                obtain ⟨ad265, e265, hx265_0⟩ := Kd.at_int (Kd.R_reads' HO_7.out).2.2 x11_3 p265 q265
                                cases e265
                                replace p265 := eq_true p265
                                replace q265 := eq_true q265
                                go_wp2
                                (try simp only [← hl7_3])
                                go_roundg k3
                                case measure => have := HJ2.out; have := HK2.out; have := HK3.out; omega
                                case rel => exact ⟨(x10_3), (wrap64 (x11_3 + 1)), qS, H', ⟨by have := HJ2.out; have := HK2.out; have := HK3.out; omega⟩, ⟨by (try simp only [hl7_3]); (with_reducible repeat (first | apply Kd.R_alloc | apply Kd.R_drewN | apply Kd.R_drew)); exact HO_7.out⟩, ⟨by (try simp only [hl7_3]); (with_reducible repeat (first | apply Kd.R_alloc | apply Kd.R_drewN | apply Kd.R_drew)); exact HO_10.out⟩, ⟨by (try simp only [hl7_3]); (with_reducible repeat (first | refine blk_drewN ?_ _ | refine blk_drew ?_ | refine blk_alloc ?_ _)); exact BK253.out⟩, ⟨qB⟩⟩
                              · rw [if_neg c54] at H
                                have c54b0 : ((rd t264 x11_3) == 0) = false := beq_eq_false_iff_ne.mpr c54
                                have c54b1 : ((rd t264 x11_3) != 0) = true := bne_iff_ne.mpr c54
                                by_cases c56 : x10_3.length < 17592186044416
                                · rw [if_pos c56] at H
                                  have LMc56 := Aside0.mk c56
                                  clear c56
                                  obtain ⟨y267, hy267⟩ : ∃ y_ : List Int, y_ = (x10_3 ++ [wrap64 (x11_3 * (rd t264 x11_3))]) := ⟨_, rfl⟩
                                  replace H : (spec_Forced.l1 k3 t264 y267 (wrap64 (x11_3 + 1)) a0_0 l0_1) = some (r1, r2, r3) := qY hy267 H
                                  have Ny267 := Aside0.mk hy267
                                  clear hy267
                                  have H' := Aside0.mk H
                                  clear H
                                  have hcz57_0 : wr.cell? ⟨gb253, 0, none⟩ = some (.int .i64 a0_0) := (blk_cell BK253.out 0).trans rfl
                                  have hcz57_1 : wr.cell? ⟨gb253, 1, none⟩ = some (.slice A0_1 l0_1.length c0_1) := (blk_cell BK253.out 1).trans rfl
                                  have hfz57_0 := blk_frozen BK253.out 0
                                  have hfz57_1 := blk_frozen BK253.out 1
                                  have p265 : 0 ≤ (x11_3 : Int) := qD
                                  have q265 : x11_3 < (t264.length : Int) := qD
                                  obtain ⟨ad265, e265, hx265_0⟩ := Kd.at_int (Kd.R_reads' HO_7.out).2.2 x11_3 p265 q265
                                  cases e265
                                  replace p265 := eq_true p265
                                  replace q265 := eq_true q265
                                  have p266 : 0 ≤ (x11_3 : Int) := qD
                                  have q266 : x11_3 < (t264.length : Int) := qD
                                  obtain ⟨ad266, e266, hx266_0⟩ := Kd.at_int (Kd.R_reads' HO_7.out).2.2 x11_3 p266 q266
                                  obtain rfl : ad265 = ad266 := (by injection e266)
                                  replace p266 := eq_true p266
                                  replace q266 := eq_true q266
                                  go_wp2_with (first | ((with_reducible refine gate_builtin (b := .append) (xs := #[.tmp 74, .tmp 81]) rfl ?_); (try (refine gate_guard (by rfl) ?_; dsimp only)); at_builtin; refine Kd.R_append (Kd.int .i64) (w0 := w) w.heap.size rfl (.tmp 74) (.tmp 81) 39 3 (.int .i64 0) 8 rfl Try.underlying39 info3 rfl (by decide) (by omega) u10 x10_3 (wrap64 (x11_3 * (rd t264 x11_3))) [.int .i64 (wrap64 (x11_3 * (rd t264 x11_3)))] (fun k_ => some k_ ≠ (.slice (some ad265) t264.length co49 : Value).ownBlock) (fun _ => False) rfl rfl ?aP (fun _ hk => hk.elim) ?aF ?aO ?aB ?aS ?aL ?_; (case aP => exact rfl); (case aB => exact (qB)); (case aF => exact (fun k_ hk => Kd.fresh' (Kd.R_lt (qR HO_7.out)) k_ hk)); (case aO => exact (qR HO_10.out)); (case aS => exact (below_size (qB))); (case aL => have := LMc56.out; omega); intro v268 w58 ho hb hg hat; rw [← Ny267.out] at ho; have n0_ := Aside0.mk (Kd.R_after (ok := (fun _ => True)) (by (with_reducible repeat (first | apply Kd.R_alloc | apply Kd.R_drewN | apply Kd.R_drew)); exact Kd.R_mono HO_7.out (fun _ hk => ⟨trivial, hk⟩)) hg hat); have n1_ := Aside0.mk (blk_grown (g := gb253) (o := .cells #[.int .i64 a0_0, .slice A0_1 l0_1.length c0_1] 27 (0, 0)) (qK BK253.out) hg (Kd.R_ne HO_10.out BK253.out (by decide))); have n2_ := Aside0.mk (hb); have n3_ := Aside0.mk (ho); clear HO_7; clear BK253; clear HB; clear HO_10; have HO_7 := n0_; have BK253 := n1_; have HB := n2_; have HO269 := n3_; clear n0_ n1_ n2_ n3_; clear ho hb hg hat))
                                  (try simp only [← hl7_3])
                                  go_roundg k3
                                  case measure => have := HJ2.out; have := HK2.out; have := HK3.out; omega
                                  case rel => exact ⟨(y267), (wrap64 (x11_3 + 1)), qS, H', ⟨by have := HJ2.out; have := HK2.out; have := HK3.out; omega⟩, ⟨by (try simp only [hl7_3]); (with_reducible repeat (first | apply Kd.R_alloc | apply Kd.R_drewN | apply Kd.R_drew)); exact Kd.R_mono HO_7.out (fun _ hk => hk.2)⟩, ⟨by (try simp only [hl7_3]); (with_reducible repeat (first | apply Kd.R_alloc | apply Kd.R_drewN | apply Kd.R_drew)); exact HO269.out⟩, ⟨by (try simp only [hl7_3]); (with_reducible repeat (first | refine blk_drewN ?_ _ | refine blk_drew ?_ | refine blk_alloc ?_ _)); exact BK253.out⟩, ⟨qB⟩⟩
                                · rw [if_neg c56] at H
                                  exact absurd H (by simp)
                            · rw [if_neg c53] at H
                              exact absurd H (by simp)
                          · rw [if_neg c52] at H
                            exact absurd H (by simp)
                        · rw [if_neg c51] at H
                          have c51b0 : decide (x11_3 ≤ a0_0) = false := decide_eq_false c51
                          clear c51
                          simp only [Option.some.injEq, Prod.mk.injEq] at H
                          obtain ⟨rfl, rfl, rfl⟩ := H
                          have hcz59_0 : wr.cell? ⟨gb253, 0, none⟩ = some (.int .i64 a0_0) := (blk_cell BK253.out 0).trans rfl
                          have hcz59_1 : wr.cell? ⟨gb253, 1, none⟩ = some (.slice A0_1 l0_1.length c0_1) := (blk_cell BK253.out 1).trans rfl
                          have hfz59_0 := blk_frozen BK253.out 0
                          have hfz59_1 := blk_frozen BK253.out 1
                          go_wp2
                          go_ret3
                          exact ⟨_, by first | rfl | (simp [errW_none, errW_some] <;> rfl) | (simp only [← hji13]; first | rfl | (simp [errW_none, errW_some] <;> rfl)) | (simp [*, errW_none, errW_some] <;> rfl), by (with_reducible repeat (first | apply Kd.R_alloc | apply Kd.R_drewN | apply Kd.R_drew)); exact Kd.R_mono HO_10.out (fun _ hk => trivial), qB⟩
          · rw [if_neg c15] at H
            exact absurd H (by simp)
        · rw [if_neg c14] at H
          exact absurd H (by simp)

end Go.Proofs.Ytdmngodinbelfaa.X
