/- Each Go function as a Lean function, with the proof that the call comes to just its answer; or a law's row out of its pure statement. Conditions: the arguments are of their kinds. Written by this session's program wip/xp/xp.sh. -/
import Derived.Test.YtdmngodinbelfaaX0
import Derived.Test.YtdmngodinbelfaaX3
import Derived.Test.YtdmngodinbelfaaX21
import Derived.Test.YtdmngodinbelfaaX26
namespace Go.Proofs.Ytdmngodinbelfaa.X
open Go.RowKit Go.Proofs.YtdmngodinbelfaaW.PrintWords Go.Proofs.YtdmngodinbelfaaW.PrintLast Go.Proofs.YtdmngodinbelfaaW.PrintMore
attribute [local go_sem] max2_int min2_int max_two min_two max_three min_three max_four min_four   -- for this text's walks alone
set_option linter.unusedVariables false
set_option linter.unusedSimpArgs false

/-! ### impl_Forced: function 22 -/
mutual
def impl_Forced.l0 : Nat → List Int → List Int → Int → Int → Int → List (List Int) → Option (List Int × Bool × Bool)
  | 0, _, _, _, _, _, _ => none
  | k + 1, x1, x17, x18, x19, x282000, x282001 => if x19 < x18 then (if 0 ≤ x19 then (if x19 < (x17.length : Int) then ((impl_isLiteral.f (rd x17 x19) x282000).bind fun t284 => (if t284 = true then (if x19 ≤ (x1.length : Int) then ((slices_Contains_int.f k (x1.take (x19 : Int).toNat) (rd x17 x19)).bind fun t286 => (if t286 = true then (some (([] : List Int), false, false)) else ((slices_Contains_int.f k (x1.take (x19 : Int).toNat) (wrap64 (-(rd x17 x19)))).bind fun t288 => (if t288 = true then (some (([] : List Int), false, false)) else (impl_Forced.l0 k x1 x17 x18 (wrap64 (x19 + 1)) x282000 x282001))))) else (none)) else (some (([] : List Int), false, false)))) else (none)) else (none)) else ((impl_Cnf_forced.f k x282000 x282001 x1).bind fun bt289 => (if bt289.2 = true then (some (([] : List Int), true, true)) else (impl_Forced.l1 k (([] : List Int)) bt289.1 (bt289.1.length : Int) 0)))
def impl_Forced.l1 : Nat → List Int → List Int → Int → Int → Option (List Int × Bool × Bool)
  | 0, _, _, _, _ => none
  | k + 1, x11, x53, x54, x55 => if x55 < x54 then (if 0 ≤ x55 then (if x55 < (x53.length : Int) then (if (rd x53 x55) = 0 then (impl_Forced.l1 k x11 x53 x54 (wrap64 (x55 + 1))) else (if x11.length < 17592186044416 then (impl_Forced.l1 k (x11 ++ [wrap64 (x55 * (rd x53 x55))]) x53 x54 (wrap64 (x55 + 1))) else (none))) else (none)) else (none)) else (some (x11, false, true))
end
def impl_Forced.f (k : Nat) (a0_0 : Int) (l0_1 : List (List Int)) (l1 : List Int) : Option (List Int × Bool × Bool) := (impl_GoodCnf.f a0_0 l0_1).bind fun t282 => (if t282 = true then (impl_Forced.l0 k l1 l1 (l1.length : Int) 0 a0_0 l0_1) else (some (([] : List Int), false, false)))
theorem impl_Forced.mono_l : ∀ k, (∀ y0 y1 y2 y3 y4 y5, LeO (impl_Forced.l0 k y0 y1 y2 y3 y4 y5) (impl_Forced.l0 (k + 1) y0 y1 y2 y3 y4 y5)) ∧ (∀ y0 y1 y2 y3, LeO (impl_Forced.l1 k y0 y1 y2 y3) (impl_Forced.l1 (k + 1) y0 y1 y2 y3))
  | 0 => ⟨fun _ _ _ _ _ _ r h => by simp [impl_Forced.l0] at h, fun _ _ _ _ r h => by simp [impl_Forced.l1] at h⟩
  | k + 1 => by
    obtain ⟨ih0, ih1⟩ := impl_Forced.mono_l k
    refine ⟨?_, ?_⟩
    · intro y0 y1 y2 y3 y4 y5
      unfold impl_Forced.l0
      repeat' first
      | (with_reducible exact ih0 _ _ _ _ _ _)
      | (with_reducible exact ih1 _ _ _ _)
      | (with_reducible exact impl_Cnf_forced.mono _ _ _ _)
      | (with_reducible exact slices_Contains_int.mono _ _ _)
      | (with_reducible exact LeO.refl _)
      | (with_reducible exact LeO.none _)
      | (with_reducible refine LeO.ite ?_ ?_)
      | (with_reducible refine LeO.bind ?_ (fun _ => ?_))
      | exact ih0 _ _ _ _ _ _
      | exact ih1 _ _ _ _
      | exact impl_Cnf_forced.mono _ _ _ _
      | exact slices_Contains_int.mono _ _ _
      | exact LeO.none _
      | refine LeO.ite ?_ ?_
      | refine LeO.bind ?_ (fun _ => ?_)
    · intro y0 y1 y2 y3
      unfold impl_Forced.l1
      repeat' first
      | (with_reducible exact ih0 _ _ _ _ _ _)
      | (with_reducible exact ih1 _ _ _ _)
      | (with_reducible exact impl_Cnf_forced.mono _ _ _ _)
      | (with_reducible exact slices_Contains_int.mono _ _ _)
      | (with_reducible exact LeO.refl _)
      | (with_reducible exact LeO.none _)
      | (with_reducible refine LeO.ite ?_ ?_)
      | (with_reducible refine LeO.bind ?_ (fun _ => ?_))
      | exact ih0 _ _ _ _ _ _
      | exact ih1 _ _ _ _
      | exact impl_Cnf_forced.mono _ _ _ _
      | exact slices_Contains_int.mono _ _ _
      | exact LeO.none _
      | refine LeO.ite ?_ ?_
      | refine LeO.bind ?_ (fun _ => ?_)
theorem impl_Forced.mono : ∀ a0 a1 a2 k, LeO (impl_Forced.f k a0 a1 a2) (impl_Forced.f (k + 1) a0 a1 a2) := by
  intro a0 a1 a2 k
  obtain ⟨ih0, ih1⟩ := impl_Forced.mono_l k
  unfold impl_Forced.f
  repeat' first
      | (with_reducible exact ih0 _ _ _ _ _ _)
      | (with_reducible exact ih1 _ _ _ _)
      | (with_reducible exact impl_Cnf_forced.mono _ _ _ _)
      | (with_reducible exact slices_Contains_int.mono _ _ _)
      | (with_reducible exact LeO.refl _)
      | (with_reducible exact LeO.none _)
      | (with_reducible refine LeO.ite ?_ ?_)
      | (with_reducible refine LeO.bind ?_ (fun _ => ?_))
      | exact ih0 _ _ _ _ _ _
      | exact ih1 _ _ _ _
      | exact impl_Cnf_forced.mono _ _ _ _
      | exact slices_Contains_int.mono _ _ _
      | exact LeO.none _
      | refine LeO.ite ?_ ?_
      | refine LeO.bind ?_ (fun _ => ?_)
set_option maxHeartbeats 8000000 in
set_option maxRecDepth 100000 in
theorem impl_Forced.calls (k : Nat) (a0_0 : Int) (A0_1 : Option Addr) (c0_1 : Nat) (l0_1 : List (List Int)) (A1 : Option Addr) (c1 : Nat) (l1 : List Int) (r1 : List Int) (r2 : Bool) (r3 : Bool) (w : World) (hr0_1 : Kd.C (Kd.slice 3 (Kd.int .i64)) w A0_1 l0_1.length l0_1) (hc0_1 : l0_1.length ≤ c0_1) (hr1 : Kd.C (Kd.int .i64) w A1 l1.length l1) (hc1 : l1.length ≤ c1) (h : impl_Forced.f k a0_0 l0_1 l1 = some (r1, r2, r3)) :
    Calls Try.prog 22 #[.agg #[.int .i64 a0_0, .slice A0_1 l0_1.length c0_1], .slice A1 l1.length c1] w fun e w' => ∃ v0_ : Value, e = .returned (.tuple #[v0_, .bool r2, .bool r3]) ∧ Kd.R (Kd.int .i64) 3 w' w.heap.size (fun _ => True) v0_ r1 ∧ Below w.heap.size w w' := by
  have hu27 := Try.underlying27
  have HR0_1 := Aside0.mk hr0_1
  have HC0_1 := Aside0.mk hc0_1
  clear hr0_1 hc0_1
  have HR1 := Aside0.mk hr1
  have HC1 := Aside0.mk hc1
  clear hr1 hc1
  have HB := Aside0.mk (Below.refl w.heap.size w)
  have H : ((impl_GoodCnf.f a0_0 l0_1).bind fun t282 => (if t282 = true then (impl_Forced.l0 k l1 l1 (l1.length : Int) 0 a0_0 l0_1) else (some (([] : List Int), false, false)))) = some (r1, r2, r3) := h
  clear h
  replace H := Option.bind_eq_some_iff.mp H
  obtain ⟨t282, A30, H⟩ := H
  replace H : (if t282 = true then (impl_Forced.l0 k l1 l1 (l1.length : Int) 0 a0_0 l0_1) else (some (([] : List Int), false, false))) = some (r1, r2, r3) := H
  have A3 := Aside0.mk A30
  clear A30
  by_cases c4 : t282 = true
  · subst c4
    have H1 : (impl_Forced.l0 k l1 l1 (l1.length : Int) 0 a0_0 l0_1) = some (r1, r2, r3) := by rw [if_pos rfl] at H; exact H
    clear H
    have H := H1
    clear H1
    have H' := Aside0.mk H
    clear H
    go_enter Try.func22, Try.ntmps22
    go_wp2_with (first | ((with_reducible refine gate_dst (N := 2) rfl ?_); refine box_event ?hg (N := 2) ?hd (cs := #[.int .i64 a0_0, .slice A0_1 l0_1.length c0_1]) (t := 27) ?hr ?_; (case hd => rfl); (case hg => rfl); (case hr => first | (go_simp; done) | (go_simp; rfl)); intro gb281 hg w5 hbox hb; have n0_ := Aside0.mk (below_step (qB) hb); have n1_ := Aside0.mk (hbox); have n2_ := Aside0.mk ((by rw [hg]; exact (below_size (qB)) : w.heap.size ≤ gb281)); have n3_ := Aside0.mk ((by rw [hg]; exact (below_size (qB)) : w.heap.size ≤ gb281)); clear HB; have HB := n0_; have BK281 := n1_; have GW281 := n2_; have GE281 := n3_; clear n0_ n1_ n2_ n3_; clear hb hbox hg; have hcz6_0 : w5.cell? ⟨gb281, 0, none⟩ = some (.int .i64 a0_0) := (blk_cell BK281.out 0).trans rfl; have hcz6_1 : w5.cell? ⟨gb281, 1, none⟩ = some (.slice A0_1 l0_1.length c0_1) := (blk_cell BK281.out 1).trans rfl; have hfz6_0 := blk_frozen BK281.out 0; have hfz6_1 := blk_frozen BK281.out 1) | ((with_reducible refine gate_callee (f := 12) rfl ?_); refine goesL_ (some 15) rfl rfl Try.func12 (by kernel_rfl) rfl #[.agg #[.int .i64 a0_0, .slice A0_1 l0_1.length c0_1]] rfl qG ?_; (with_reducible refine (impl_GoodCnf.calls a0_0 _ _ l0_1 true _ ?side1 ?side2 A3.out).mono ?_); (case side1 => exact qC (Kd.C_below HR0_1.out HB.out)); (case side2 => exact HC0_1.out); rintro e w7 ⟨rfl, hb⟩; refine ⟨_, rfl, ?_⟩; have n0_ := Aside0.mk (blk_below (g := gb281) (o := .cells #[.int .i64 a0_0, .slice A0_1 l0_1.length c0_1] 27 (0, 0)) (qK BK281.out) hb); have n1_ := Aside0.mk (below_step (qB) hb); clear BK281; clear HB; have BK281 := n0_; have HB := n1_; clear n0_ n1_; (try clear hb); (try clear hb2); (try clear hk); (try clear hi)))
    go_loopg [19] k (fun kq v19 w' => ∃ (x19_1 : Int), v19 = .int .i64 x19_1 ∧ Aside0 (impl_Forced.l0 kq l1 l1 (l1.length : Int) x19_1 a0_0 l0_1 = some (r1, r2, r3)) ∧ Aside0 (kq ≤ k) ∧ Aside0 (w'.heap[gb281]? = some (.cells #[.int .i64 a0_0, (.slice A0_1 l0_1.length c0_1)] 27 (0, 0))) ∧ Aside0 (Below w.heap.size w w'))
    case atStart => exact ⟨(0), qS, H', ⟨Nat.le_refl _⟩, ⟨by (with_reducible repeat (first | refine blk_drewN ?_ _ | refine blk_drew ?_ | refine blk_alloc ?_ _)); exact BK281.out⟩, ⟨qB⟩⟩
    case round =>
      clear H'
      try clear c1
      try clear c2
      try clear p2
      try clear c4
      try clear hcz6_0
      try clear hcz6_1
      try clear hfz6_0
      try clear hfz6_1
      obtain ⟨x19_1, rfl, HA, HK1, BK281, HB⟩ := hrel
      cases gk with
      | zero => exact absurd HA.out (by simp [impl_Forced.l0])
      | succ k1 =>
        have H := HA.out
        clear HA
        simp only [impl_Forced.l0] at H
        by_cases c8 : x19_1 < (l1.length : Int)
        · rw [if_pos c8] at H
          have c8b0 : decide (x19_1 < (l1.length : Int)) = true := decide_eq_true c8
          clear c8
          by_cases c9 : 0 ≤ x19_1
          · rw [if_pos c9] at H
            have c9b0 : decide (0 ≤ x19_1) = true := decide_eq_true c9
            clear c9
            by_cases c10 : x19_1 < (l1.length : Int)
            · rw [if_pos c10] at H
              have c10b0 : decide (x19_1 < (l1.length : Int)) = true := decide_eq_true c10
              clear c10
              replace H := Option.bind_eq_some_iff.mp H
              obtain ⟨t284, A110, H⟩ := H
              replace H : (if t284 = true then (if x19_1 ≤ (l1.length : Int) then ((slices_Contains_int.f k1 (l1.take (x19_1 : Int).toNat) (rd l1 x19_1)).bind fun t286 => (if t286 = true then (some (([] : List Int), false, false)) else ((slices_Contains_int.f k1 (l1.take (x19_1 : Int).toNat) (wrap64 (-(rd l1 x19_1)))).bind fun t288 => (if t288 = true then (some (([] : List Int), false, false)) else (impl_Forced.l0 k1 l1 l1 (l1.length : Int) (wrap64 (x19_1 + 1)) a0_0 l0_1))))) else (none)) else (some (([] : List Int), false, false))) = some (r1, r2, r3) := H
              have A11 := Aside0.mk A110
              clear A110
              by_cases c12 : t284 = true
              · subst c12
                have H1 : (if x19_1 ≤ (l1.length : Int) then ((slices_Contains_int.f k1 (l1.take (x19_1 : Int).toNat) (rd l1 x19_1)).bind fun t286 => (if t286 = true then (some (([] : List Int), false, false)) else ((slices_Contains_int.f k1 (l1.take (x19_1 : Int).toNat) (wrap64 (-(rd l1 x19_1)))).bind fun t288 => (if t288 = true then (some (([] : List Int), false, false)) else (impl_Forced.l0 k1 l1 l1 (l1.length : Int) (wrap64 (x19_1 + 1)) a0_0 l0_1))))) else (none)) = some (r1, r2, r3) := by rw [if_pos rfl] at H; exact H
                clear H
                have H := H1
                clear H1
                have c13b0 := eq_true (qD : 0 ≤ x19_1)
                by_cases c14 : x19_1 ≤ (l1.length : Int)
                · rw [if_pos c14] at H
                  have c14b0 := eq_true c14
                  have c14b1 : decide (x19_1 ≤ (l1.length : Int)) = true := decide_eq_true c14
                  clear c14
                  replace H := Option.bind_eq_some_iff.mp H
                  obtain ⟨t286, A150, H⟩ := H
                  replace H : (if t286 = true then (some (([] : List Int), false, false)) else ((slices_Contains_int.f k1 (l1.take (x19_1 : Int).toNat) (wrap64 (-(rd l1 x19_1)))).bind fun t288 => (if t288 = true then (some (([] : List Int), false, false)) else (impl_Forced.l0 k1 l1 l1 (l1.length : Int) (wrap64 (x19_1 + 1)) a0_0 l0_1)))) = some (r1, r2, r3) := H
                  have A15 := Aside0.mk A150
                  clear A150
                  by_cases c16 : t286 = true
                  · subst c16
                    have H1 : (some (([] : List Int), false, false)) = some (r1, r2, r3) := by rw [if_pos rfl] at H; exact H
                    clear H
                    have H := H1
                    clear H1
                    simp only [Option.some.injEq, Prod.mk.injEq] at H
                    obtain ⟨rfl, rfl, rfl⟩ := H
                    have p283 : 0 ≤ (x19_1 : Int) := qD
                    have q283 : x19_1 < (l1.length : Int) := qD
                    obtain ⟨ad283, e283, hx283_0⟩ := Kd.at_int HR1.out x19_1 p283 q283
                    cases e283
                    replace hx283_0 := (HB.out.cell (World.block_lt_of_cell? w _ hx283_0)).trans hx283_0
                    replace p283 := eq_true p283
                    replace q283 := eq_true q283
                    have hcz17_0 : wr.cell? ⟨gb281, 0, none⟩ = some (.int .i64 a0_0) := (blk_cell BK281.out 0).trans rfl
                    have hcz17_1 : wr.cell? ⟨gb281, 1, none⟩ = some (.slice A0_1 l0_1.length c0_1) := (blk_cell BK281.out 1).trans rfl
                    have hfz17_0 := blk_frozen BK281.out 0
                    have hfz17_1 := blk_frozen BK281.out 1
                    go_wp2_with (first | ((with_reducible refine gate_callee (f := 45) rfl ?_); refine goesL_ (some 27) rfl rfl Try.func45 (by kernel_rfl) rfl #[.int .i64 (rd l1 x19_1), .int .i64 a0_0] rfl qG ?_; (with_reducible refine (impl_isLiteral.calls (rd l1 x19_1) a0_0 true _ A11.out).mono ?_); rintro e w' ⟨rfl, ⟨nd, rfl⟩⟩; refine ⟨_, rfl, ?_⟩; obtain ⟨i018, hi018, _, hsz18, _⟩ := info_parts info3; obtain ⟨hcut18, hA18, hC18⟩ := print_take_of (P := Try.prog) (Value.int .i64) 0 39 3 .i64 Try.underlying39 hi018 hsz18 (some ad283) c1 l1 x19_1 qD qD HC1.out; have hln18_ := qLen l1 x19_1 qD qD; have HR285 := Aside0.mk (Kd.C_of_reads (h1 := fun _ => rfl) (hA18 _ (Kd.reads_of_C HR1.out))); have HC285 := Aside0.mk hC18; clear hA18 hC18 hi018 hsz18) | (go_at_call 46; rw [← hln18_]; (with_reducible refine (slices_Contains_int.calls k1 _ _ (l1.take (x19_1 : Int).toNat) (rd l1 x19_1) true _ ?side1 ?side2 A15.out).mono ?_); (case side1 => repeat (first | exact (Kd.C_below HR285.out (qB)) | (with_reducible refine Kd.C_alloc ?_ _) | (with_reducible refine Kd.C_drewN ?_ _) | (with_reducible refine Kd.C_drew ?_))); (case side2 => exact HC285.out); rintro e w' ⟨rfl, ⟨nd, rfl⟩⟩))
                    go_ret3
                    exact ⟨_, qE, by first | exact Kd.R_nil _ _ _ _ _ | exact Kd.N_nil _ _ _ _ _ | exact Kd.V_nil _ _ _ _ _ | exact Kd.Q_nil _ _ _ _ _ | exact Kd.S_nil _ _ _ _ _, qB⟩
                  · replace c16 := Bool.eq_false_iff.mpr c16
                    subst c16
                    have H1 : ((slices_Contains_int.f k1 (l1.take (x19_1 : Int).toNat) (wrap64 (-(rd l1 x19_1)))).bind fun t288 => (if t288 = true then (some (([] : List Int), false, false)) else (impl_Forced.l0 k1 l1 l1 (l1.length : Int) (wrap64 (x19_1 + 1)) a0_0 l0_1))) = some (r1, r2, r3) := by rw [if_neg (show ¬ (false = true) by decide)] at H; exact H
                    clear H
                    have H := H1
                    clear H1
                    have c19b0 := eq_true (qD : 0 ≤ x19_1)
                    have c20b0 := eq_true (qD : x19_1 ≤ (l1.length : Int))
                    replace H := Option.bind_eq_some_iff.mp H
                    obtain ⟨t288, A210, H⟩ := H
                    replace H : (if t288 = true then (some (([] : List Int), false, false)) else (impl_Forced.l0 k1 l1 l1 (l1.length : Int) (wrap64 (x19_1 + 1)) a0_0 l0_1)) = some (r1, r2, r3) := H
                    have A21 := Aside0.mk A210
                    clear A210
                    by_cases c22 : t288 = true
                    · subst c22
                      have H1 : (some (([] : List Int), false, false)) = some (r1, r2, r3) := by rw [if_pos rfl] at H; exact H
                      clear H
                      have H := H1
                      clear H1
                      simp only [Option.some.injEq, Prod.mk.injEq] at H
                      obtain ⟨rfl, rfl, rfl⟩ := H
                      have p283 : 0 ≤ (x19_1 : Int) := qD
                      have q283 : x19_1 < (l1.length : Int) := qD
                      obtain ⟨ad283, e283, hx283_0⟩ := Kd.at_int HR1.out x19_1 p283 q283
                      cases e283
                      replace hx283_0 := (HB.out.cell (World.block_lt_of_cell? w _ hx283_0)).trans hx283_0
                      replace p283 := eq_true p283
                      replace q283 := eq_true q283
                      have hcz23_0 : wr.cell? ⟨gb281, 0, none⟩ = some (.int .i64 a0_0) := (blk_cell BK281.out 0).trans rfl
                      have hcz23_1 : wr.cell? ⟨gb281, 1, none⟩ = some (.slice A0_1 l0_1.length c0_1) := (blk_cell BK281.out 1).trans rfl
                      have hfz23_0 := blk_frozen BK281.out 0
                      have hfz23_1 := blk_frozen BK281.out 1
                      go_wp2_with (first | ((with_reducible refine gate_callee (f := 45) rfl ?_); refine goesL_ (some 27) rfl rfl Try.func45 (by kernel_rfl) rfl #[.int .i64 (rd l1 x19_1), .int .i64 a0_0] rfl qG ?_; (with_reducible refine (impl_isLiteral.calls (rd l1 x19_1) a0_0 true _ A11.out).mono ?_); rintro e w' ⟨rfl, ⟨nd, rfl⟩⟩; refine ⟨_, rfl, ?_⟩; obtain ⟨i024, hi024, _, hsz24, _⟩ := info_parts info3; obtain ⟨hcut24, hA24, hC24⟩ := print_take_of (P := Try.prog) (Value.int .i64) 0 39 3 .i64 Try.underlying39 hi024 hsz24 (some ad283) c1 l1 x19_1 qD qD HC1.out; have hln24_ := qLen l1 x19_1 qD qD; have HR285 := Aside0.mk (Kd.C_of_reads (h1 := fun _ => rfl) (hA24 _ (Kd.reads_of_C HR1.out))); have HC285 := Aside0.mk hC24; clear hA24 hC24 hi024 hsz24) | (go_at_call 46; rw [← hln24_]; (with_reducible refine (slices_Contains_int.calls k1 _ _ (l1.take (x19_1 : Int).toNat) (rd l1 x19_1) false _ ?side1 ?side2 A15.out).mono ?_); (case side1 => repeat (first | exact (Kd.C_below HR285.out (qB)) | (with_reducible refine Kd.C_alloc ?_ _) | (with_reducible refine Kd.C_drewN ?_ _) | (with_reducible refine Kd.C_drew ?_))); (case side2 => exact HC285.out); rintro e w' ⟨rfl, ⟨nd, rfl⟩⟩; obtain ⟨i025, hi025, _, hsz25, _⟩ := info_parts info3; obtain ⟨hcut25, hA25, hC25⟩ := print_take_of (P := Try.prog) (Value.int .i64) 0 39 3 .i64 Try.underlying39 hi025 hsz25 (some ad283) c1 l1 x19_1 qD qD HC1.out; have hln25_ := qLen l1 x19_1 qD qD; have HR287 := Aside0.mk (Kd.C_of_reads (h1 := fun _ => rfl) (hA25 _ (Kd.reads_of_C HR1.out))); have HC287 := Aside0.mk hC25; clear hA25 hC25 hi025 hsz25) | (go_at_call 46; rw [← hln24_]; (with_reducible refine (slices_Contains_int.calls k1 _ _ (l1.take (x19_1 : Int).toNat) (wrap64 (-(rd l1 x19_1))) true _ ?side1 ?side2 A21.out).mono ?_); (case side1 => repeat (first | exact (Kd.C_below HR287.out (qB)) | (with_reducible refine Kd.C_alloc ?_ _) | (with_reducible refine Kd.C_drewN ?_ _) | (with_reducible refine Kd.C_drew ?_))); (case side2 => exact HC287.out); rintro e w' ⟨rfl, ⟨nd, rfl⟩⟩))
                      go_ret3
                      exact ⟨_, qE, by first | exact Kd.R_nil _ _ _ _ _ | exact Kd.N_nil _ _ _ _ _ | exact Kd.V_nil _ _ _ _ _ | exact Kd.Q_nil _ _ _ _ _ | exact Kd.S_nil _ _ _ _ _, qB⟩
                    · replace c22 := Bool.eq_false_iff.mpr c22
                      subst c22
                      have H1 : (impl_Forced.l0 k1 l1 l1 (l1.length : Int) (wrap64 (x19_1 + 1)) a0_0 l0_1) = some (r1, r2, r3) := by rw [if_neg (show ¬ (false = true) by decide)] at H; exact H
                      clear H
                      have H := H1
                      clear H1
                      have H' := Aside0.mk H
                      clear H
                      have p283 : 0 ≤ (x19_1 : Int) := qD
                      have q283 : x19_1 < (l1.length : Int) := qD
                      obtain ⟨ad283, e283, hx283_0⟩ := Kd.at_int HR1.out x19_1 p283 q283
                      cases e283
                      replace hx283_0 := (HB.out.cell (World.block_lt_of_cell? w _ hx283_0)).trans hx283_0
                      replace p283 := eq_true p283
                      replace q283 := eq_true q283
                      have hcz26_0 : wr.cell? ⟨gb281, 0, none⟩ = some (.int .i64 a0_0) := (blk_cell BK281.out 0).trans rfl
                      have hcz26_1 : wr.cell? ⟨gb281, 1, none⟩ = some (.slice A0_1 l0_1.length c0_1) := (blk_cell BK281.out 1).trans rfl
                      have hfz26_0 := blk_frozen BK281.out 0
                      have hfz26_1 := blk_frozen BK281.out 1
                      go_wp2_with (first | ((with_reducible refine gate_callee (f := 45) rfl ?_); refine goesL_ (some 27) rfl rfl Try.func45 (by kernel_rfl) rfl #[.int .i64 (rd l1 x19_1), .int .i64 a0_0] rfl qG ?_; (with_reducible refine (impl_isLiteral.calls (rd l1 x19_1) a0_0 true _ A11.out).mono ?_); rintro e w' ⟨rfl, ⟨nd, rfl⟩⟩; refine ⟨_, rfl, ?_⟩; obtain ⟨i027, hi027, _, hsz27, _⟩ := info_parts info3; obtain ⟨hcut27, hA27, hC27⟩ := print_take_of (P := Try.prog) (Value.int .i64) 0 39 3 .i64 Try.underlying39 hi027 hsz27 (some ad283) c1 l1 x19_1 qD qD HC1.out; have hln27_ := qLen l1 x19_1 qD qD; have HR285 := Aside0.mk (Kd.C_of_reads (h1 := fun _ => rfl) (hA27 _ (Kd.reads_of_C HR1.out))); have HC285 := Aside0.mk hC27; clear hA27 hC27 hi027 hsz27) | (go_at_call 46; rw [← hln27_]; (with_reducible refine (slices_Contains_int.calls k1 _ _ (l1.take (x19_1 : Int).toNat) (rd l1 x19_1) false _ ?side1 ?side2 A15.out).mono ?_); (case side1 => repeat (first | exact (Kd.C_below HR285.out (qB)) | (with_reducible refine Kd.C_alloc ?_ _) | (with_reducible refine Kd.C_drewN ?_ _) | (with_reducible refine Kd.C_drew ?_))); (case side2 => exact HC285.out); rintro e w' ⟨rfl, ⟨nd, rfl⟩⟩; obtain ⟨i028, hi028, _, hsz28, _⟩ := info_parts info3; obtain ⟨hcut28, hA28, hC28⟩ := print_take_of (P := Try.prog) (Value.int .i64) 0 39 3 .i64 Try.underlying39 hi028 hsz28 (some ad283) c1 l1 x19_1 qD qD HC1.out; have hln28_ := qLen l1 x19_1 qD qD; have HR287 := Aside0.mk (Kd.C_of_reads (h1 := fun _ => rfl) (hA28 _ (Kd.reads_of_C HR1.out))); have HC287 := Aside0.mk hC28; clear hA28 hC28 hi028 hsz28) | (go_at_call 46; rw [← hln27_]; (with_reducible refine (slices_Contains_int.calls k1 _ _ (l1.take (x19_1 : Int).toNat) (wrap64 (-(rd l1 x19_1))) false _ ?side1 ?side2 A21.out).mono ?_); (case side1 => repeat (first | exact (Kd.C_below HR287.out (qB)) | (with_reducible refine Kd.C_alloc ?_ _) | (with_reducible refine Kd.C_drewN ?_ _) | (with_reducible refine Kd.C_drew ?_))); (case side2 => exact HC287.out); rintro e w' ⟨rfl, ⟨nd, rfl⟩⟩))
                      go_roundg k1
                      case measure => have := HK1.out; omega
                      case rel => exact ⟨(wrap64 (x19_1 + 1)), qS, H', ⟨by have := HK1.out; omega⟩, ⟨by (with_reducible repeat (first | refine blk_drewN ?_ _ | refine blk_drew ?_ | refine blk_alloc ?_ _)); exact BK281.out⟩, ⟨qB⟩⟩
                · rw [if_neg c14] at H
                  exact absurd H (by simp)
              · replace c12 := Bool.eq_false_iff.mpr c12
                subst c12
                have H1 : (some (([] : List Int), false, false)) = some (r1, r2, r3) := by rw [if_neg (show ¬ (false = true) by decide)] at H; exact H
                clear H
                have H := H1
                clear H1
                simp only [Option.some.injEq, Prod.mk.injEq] at H
                obtain ⟨rfl, rfl, rfl⟩ := H
                have p283 : 0 ≤ (x19_1 : Int) := qD
                have q283 : x19_1 < (l1.length : Int) := qD
                obtain ⟨ad283, e283, hx283_0⟩ := Kd.at_int HR1.out x19_1 p283 q283
                cases e283
                replace hx283_0 := (HB.out.cell (World.block_lt_of_cell? w _ hx283_0)).trans hx283_0
                replace p283 := eq_true p283
                replace q283 := eq_true q283
                have hcz29_0 : wr.cell? ⟨gb281, 0, none⟩ = some (.int .i64 a0_0) := (blk_cell BK281.out 0).trans rfl
                have hcz29_1 : wr.cell? ⟨gb281, 1, none⟩ = some (.slice A0_1 l0_1.length c0_1) := (blk_cell BK281.out 1).trans rfl
                have hfz29_0 := blk_frozen BK281.out 0
                have hfz29_1 := blk_frozen BK281.out 1
                go_wp2_with (first | ((with_reducible refine gate_callee (f := 45) rfl ?_); refine goesL_ (some 27) rfl rfl Try.func45 (by kernel_rfl) rfl #[.int .i64 (rd l1 x19_1), .int .i64 a0_0] rfl qG ?_; (with_reducible refine (impl_isLiteral.calls (rd l1 x19_1) a0_0 false _ A11.out).mono ?_); rintro e w' ⟨rfl, ⟨nd, rfl⟩⟩; refine ⟨_, rfl, ?_⟩))
                go_ret3
                exact ⟨_, qE, by first | exact Kd.R_nil _ _ _ _ _ | exact Kd.N_nil _ _ _ _ _ | exact Kd.V_nil _ _ _ _ _ | exact Kd.Q_nil _ _ _ _ _ | exact Kd.S_nil _ _ _ _ _, qB⟩
            · rw [if_neg c10] at H
              exact absurd H (by simp)
          · rw [if_neg c9] at H
            exact absurd H (by simp)
        · rw [if_neg c8] at H
          have c8b0 : decide (x19_1 < (l1.length : Int)) = false := decide_eq_false c8
          clear c8
          replace H := Option.bind_eq_some_iff.mp H
          obtain ⟨⟨t289, t292⟩, A300, H⟩ := H
          replace H : (if t292 = true then (some (([] : List Int), true, true)) else (impl_Forced.l1 k1 (([] : List Int)) t289 (t289.length : Int) 0)) = some (r1, r2, r3) := H
          have A30 := Aside0.mk A300
          clear A300
          by_cases c31 : t292 = true
          · subst c31
            have H1 : (some (([] : List Int), true, true)) = some (r1, r2, r3) := by rw [if_pos rfl] at H; exact H
            clear H
            have H := H1
            clear H1
            simp only [Option.some.injEq, Prod.mk.injEq] at H
            obtain ⟨rfl, rfl, rfl⟩ := H
            have hcz32_0 : wr.cell? ⟨gb281, 0, none⟩ = some (.int .i64 a0_0) := (blk_cell BK281.out 0).trans rfl
            have hcz32_1 : wr.cell? ⟨gb281, 1, none⟩ = some (.slice A0_1 l0_1.length c0_1) := (blk_cell BK281.out 1).trans rfl
            have hfz32_0 := blk_frozen BK281.out 0
            have hfz32_1 := blk_frozen BK281.out 1
            go_wp2_with (first | ((with_reducible refine gate_callee (f := 47) rfl ?_); refine goesL_ (some 48) rfl rfl Try.func47 (by kernel_rfl) rfl #[.agg #[.int .i64 a0_0, .slice A0_1 l0_1.length c0_1], .slice A1 l1.length c1] rfl qG ?_; (with_reducible refine (impl_Cnf_forced.calls k1 a0_0 _ _ l0_1 _ _ l1 t289 true _ ?side1 ?side2 ?side3 ?side4 A30.out).mono ?_); (case side1 => exact qC (Kd.C_below HR0_1.out HB.out)); (case side2 => exact HC0_1.out); (case side3 => exact qC (Kd.C_below HR1.out HB.out)); (case side4 => exact HC1.out); rintro e w33 ⟨v290, rfl, ho0, hb⟩; refine ⟨_, rfl, ?_⟩; have n0_ := Aside0.mk (Kd.R_lower ho0 (below_size (qB))); have n1_ := Aside0.mk (blk_below (g := gb281) (o := .cells #[.int .i64 a0_0, .slice A0_1 l0_1.length c0_1] 27 (0, 0)) (qK BK281.out) hb); have n2_ := Aside0.mk (below_step (qB) hb); clear BK281; clear HB; have HO291 := n0_; have BK281 := n1_; have HB := n2_; clear n0_ n1_ n2_; (try clear hb); (try clear hb2); (try clear hk); (try clear hi); (try clear ho0)))
            go_ret3
            exact ⟨_, qE, by first | exact Kd.R_nil _ _ _ _ _ | exact Kd.N_nil _ _ _ _ _ | exact Kd.V_nil _ _ _ _ _ | exact Kd.Q_nil _ _ _ _ _ | exact Kd.S_nil _ _ _ _ _, qB⟩
          · replace c31 := Bool.eq_false_iff.mpr c31
            subst c31
            have H1 : (impl_Forced.l1 k1 (([] : List Int)) t289 (t289.length : Int) 0) = some (r1, r2, r3) := by rw [if_neg (show ¬ (false = true) by decide)] at H; exact H
            clear H
            have H := H1
            clear H1
            obtain ⟨y293, hy293⟩ : ∃ y_ : List Int, y_ = (([] : List Int)) := ⟨_, rfl⟩
            replace H : (impl_Forced.l1 k1 y293 t289 (t289.length : Int) 0) = some (r1, r2, r3) := qY hy293 H
            have Ny293 := Aside0.mk hy293
            clear hy293
            have H' := Aside0.mk H
            clear H
            have hcz34_0 : wr.cell? ⟨gb281, 0, none⟩ = some (.int .i64 a0_0) := (blk_cell BK281.out 0).trans rfl
            have hcz34_1 : wr.cell? ⟨gb281, 1, none⟩ = some (.slice A0_1 l0_1.length c0_1) := (blk_cell BK281.out 1).trans rfl
            have hfz34_0 := blk_frozen BK281.out 0
            have hfz34_1 := blk_frozen BK281.out 1
            go_wp2_with (first | ((with_reducible refine gate_callee (f := 47) rfl ?_); refine goesL_ (some 48) rfl rfl Try.func47 (by kernel_rfl) rfl #[.agg #[.int .i64 a0_0, .slice A0_1 l0_1.length c0_1], .slice A1 l1.length c1] rfl qG ?_; (with_reducible refine (impl_Cnf_forced.calls k1 a0_0 _ _ l0_1 _ _ l1 t289 false _ ?side1 ?side2 ?side3 ?side4 A30.out).mono ?_); (case side1 => exact qC (Kd.C_below HR0_1.out HB.out)); (case side2 => exact HC0_1.out); (case side3 => exact qC (Kd.C_below HR1.out HB.out)); (case side4 => exact HC1.out); rintro e w35 ⟨v290, rfl, ho0, hb⟩; refine ⟨_, rfl, ?_⟩; have n0_ := Aside0.mk (Kd.R_lower ho0 (below_size (qB))); have n1_ := Aside0.mk (blk_below (g := gb281) (o := .cells #[.int .i64 a0_0, .slice A0_1 l0_1.length c0_1] 27 (0, 0)) (qK BK281.out) hb); have n2_ := Aside0.mk (below_step (qB) hb); clear BK281; clear HB; have HO291 := n0_; have BK281 := n1_; have HB := n2_; clear n0_ n1_ n2_; (try clear hb); (try clear hb2); (try clear hk); (try clear hi); (try clear ho0)) | ((with_reducible refine gate_dst (N := 52) rfl ?_); refine Kd.R_lit (Kd.int .i64) _ 3 ?hg (N := 52) ?hd (xs := ([] : List Int)) (inner := []) (ok := fun _ => True) (okp := fun _ => True) ?hr ?hp (fun _ hk => hk) trivial (Below.refl _ _) (Nat.le_refl _) (by simp) ?_; (case hd => rfl); (case hg => rfl); (case hr => first | (go_simp; done) | (go_simp; rfl)); (case hp => exact (Reps.none _ _)); intro v294 w36 ho37 hb hg_ hnew_; clear hg_ hnew_; (first | rw [← Ny293.out] at ho37 | (simp only [Int.reduceToNat] at ho37; rw [← Ny293.out] at ho37)); have n0_ := Aside0.mk (Kd.R_elder' (qR HO291.out) (Kd.R_base ho37) hb); have n1_ := Aside0.mk (Kd.R_lower (Kd.R_new' ho37 (Kd.R_lt (qR HO291.out))) (below_size (qB))); have n2_ := Aside0.mk (blk_below (g := gb281) (o := .cells #[.int .i64 a0_0, .slice A0_1 l0_1.length c0_1] 27 (0, 0)) (qK BK281.out) hb); have n3_ := Aside0.mk (below_step (qB) hb); clear HO291; clear BK281; clear HB; have HO291 := n0_; have HO295 := n1_; have BK281 := n2_; have HB := n3_; clear n0_ n1_ n2_ n3_; clear hb ho37; obtain ⟨Ao38, co38, eo38⟩ := Kd.R_slice HO291.out; subst eo38))
            go_loopg [11, 55] k1 (fun kq v11 v55 w' => ∃ (x11_2 : List Int) (x55_2 : Int), v55 = .int .i64 x55_2 ∧ Aside0 (impl_Forced.l1 kq x11_2 t289 (t289.length : Int) x55_2 = some (r1, r2, r3)) ∧ Aside0 (kq ≤ k1) ∧ Aside0 (Kd.R (Kd.int .i64) 3 w' w.heap.size (fun k_ => some k_ ≠ ((.slice Ao38 t289.length co38) : Value).ownBlock) v11 x11_2) ∧ Aside0 (Kd.R (Kd.int .i64) 3 w' w.heap.size (fun k_ => some k_ ≠ (v11 : Value).ownBlock) (.slice Ao38 t289.length co38) t289) ∧ Aside0 (w'.heap[gb281]? = some (.cells #[.int .i64 a0_0, (.slice A0_1 l0_1.length c0_1)] 27 (0, 0))) ∧ Aside0 (Below w.heap.size w w'))
            case atStart => exact ⟨(y293), (0), qS, H', ⟨Nat.le_refl _⟩, ⟨by (with_reducible repeat (first | apply Kd.R_alloc | apply Kd.R_drewN | apply Kd.R_drew)); exact Kd.R_mono HO295.out (fun _ hk => hk.2)⟩, ⟨by (with_reducible repeat (first | apply Kd.R_alloc | apply Kd.R_drewN | apply Kd.R_drew)); exact Kd.R_mono HO291.out (fun _ hk => hk.2)⟩, ⟨by (with_reducible repeat (first | refine blk_drewN ?_ _ | refine blk_drew ?_ | refine blk_alloc ?_ _)); exact BK281.out⟩, ⟨qB⟩⟩
            case round =>
              clear H'
              try clear c1
              try clear c2
              try clear p2
              try clear q2
              try clear hx2
              try clear c3
              try clear c4
              try clear p6
              try clear c8
              try clear c8b0
              try clear c9
              try clear c9b0
              try clear c10
              try clear c10b0
              try clear c12
              try clear c13
              try clear c13b0
              try clear c14
              try clear c14b0
              try clear c14b1
              try clear c16
              try clear c19
              try clear c19b0
              try clear c20
              try clear c20b0
              try clear c22
              try clear p28
              try clear q28
              try clear hx28
              try clear c31
              try clear hcz17_0
              try clear hcz17_1
              try clear hcz23_0
              try clear hcz23_1
              try clear hcz26_0
              try clear hcz26_1
              try clear hcz29_0
              try clear hcz29_1
              try clear hcz32_0
              try clear hcz32_1
              try clear hcz34_0
              try clear hcz34_1
              try clear hcz6_0
              try clear hcz6_1
              try clear hfz17_0
              try clear hfz17_1
              try clear hfz23_0
              try clear hfz23_1
              try clear hfz26_0
              try clear hfz26_1
              try clear hfz29_0
              try clear hfz29_1
              try clear hfz32_0
              try clear hfz32_1
              try clear hfz34_0
              try clear hfz34_1
              try clear hfz6_0
              try clear hfz6_1
              try clear hx283_0
              try clear p2
              try clear p283
              try clear q283
              obtain ⟨x11_2, x55_2, rfl, HA, HK2, HO_11, HO_53, BK281, HB⟩ := hrel
              cases gk with
              | zero => exact absurd HA.out (by simp [impl_Forced.l1])
              | succ k2 =>
                have H := HA.out
                clear HA
                simp only [impl_Forced.l1] at H
                by_cases c39 : x55_2 < (t289.length : Int)
                · rw [if_pos c39] at H
                  have c39b0 : decide (x55_2 < (t289.length : Int)) = true := decide_eq_true c39
                  clear c39
                  by_cases c40 : 0 ≤ x55_2
                  · rw [if_pos c40] at H
                    have c40b0 : decide (0 ≤ x55_2) = true := decide_eq_true c40
                    clear c40
                    by_cases c41 : x55_2 < (t289.length : Int)
                    · rw [if_pos c41] at H
                      have c41b0 : decide (x55_2 < (t289.length : Int)) = true := decide_eq_true c41
                      clear c41
                      by_cases c42 : (rd t289 x55_2) = 0
                      · rw [if_pos c42] at H
                        have c42b0 : ((rd t289 x55_2) == 0) = true := beq_iff_eq.mpr c42
                        have c42b1 : ((rd t289 x55_2) != 0) = false := bne_eq_false_iff_eq.mpr c42
                        clear c42
                        have H' := Aside0.mk H
                        clear H
                        have p296 : 0 ≤ (x55_2 : Int) := qD
                        have q296 : x55_2 < (t289.length : Int) := qD
                        obtain ⟨ad296, e296, hx296_0⟩ := Kd.at_int (Kd.R_reads' HO_53.out).2.2 x55_2 p296 q296
                        cases e296
                        replace p296 := eq_true p296
                        replace q296 := eq_true q296
                        go_wp2
                        go_roundg k2
                        case measure => have := HK1.out; have := HK2.out; omega
                        case rel => exact ⟨(x11_2), (wrap64 (x55_2 + 1)), qS, H', ⟨by have := HK1.out; have := HK2.out; omega⟩, ⟨qR HO_11.out⟩, ⟨qR HO_53.out⟩, ⟨by (with_reducible repeat (first | refine blk_drewN ?_ _ | refine blk_drew ?_ | refine blk_alloc ?_ _)); exact BK281.out⟩, ⟨qB⟩⟩
                      · rw [if_neg c42] at H
                        have c42b0 : ((rd t289 x55_2) == 0) = false := beq_eq_false_iff_ne.mpr c42
                        have c42b1 : ((rd t289 x55_2) != 0) = true := bne_iff_ne.mpr c42
                        by_cases c43 : x11_2.length < 17592186044416
                        · rw [if_pos c43] at H
                          have LMc43 := Aside0.mk c43
                          clear c43
                          obtain ⟨y297, hy297⟩ : ∃ y_ : List Int, y_ = (x11_2 ++ [wrap64 (x55_2 * (rd t289 x55_2))]) := ⟨_, rfl⟩
                          replace H : (impl_Forced.l1 k2 y297 t289 (t289.length : Int) (wrap64 (x55_2 + 1))) = some (r1, r2, r3) := qY hy297 H
                          have Ny297 := Aside0.mk hy297
                          clear hy297
                          have H' := Aside0.mk H
                          clear H
                          have p296 : 0 ≤ (x55_2 : Int) := qD
                          have q296 : x55_2 < (t289.length : Int) := qD
                          obtain ⟨ad296, e296, hx296_0⟩ := Kd.at_int (Kd.R_reads' HO_53.out).2.2 x55_2 p296 q296
                          cases e296
                          replace p296 := eq_true p296
                          replace q296 := eq_true q296
                          go_wp2_with (first | ((with_reducible refine gate_builtin (b := .append) (xs := #[.tmp 62, .tmp 66]) rfl ?_); at_builtin; refine Kd.R_append (Kd.int .i64) (w0 := w) w.heap.size rfl (.tmp 62) (.tmp 66) 39 3 (.int .i64 0) 8 rfl Try.underlying39 info3 rfl (by decide) (by omega) u11 x11_2 (wrap64 (x55_2 * (rd t289 x55_2))) [.int .i64 (wrap64 (x55_2 * (rd t289 x55_2)))] (fun k_ => some k_ ≠ (.slice (some ad296) t289.length co38 : Value).ownBlock) (fun _ => False) rfl rfl ?aP (fun _ hk => hk.elim) ?aF ?aO ?aB ?aS ?aL ?_; (case aP => exact rfl); (case aB => exact (qB)); (case aF => exact (fun k_ hk => Kd.fresh' (Kd.R_lt (qR HO_53.out)) k_ hk)); (case aO => exact (qR HO_11.out)); (case aS => exact (below_size (qB))); (case aL => have := LMc43.out; omega); intro v298 w44 ho hb hg hat; rw [← Ny297.out] at ho; have n0_ := Aside0.mk (Kd.R_after (ok := (fun _ => True)) (by (with_reducible repeat (first | apply Kd.R_alloc | apply Kd.R_drewN | apply Kd.R_drew)); exact Kd.R_mono HO_53.out (fun _ hk => ⟨trivial, hk⟩)) hg hat); have n1_ := Aside0.mk (blk_grown (g := gb281) (o := .cells #[.int .i64 a0_0, .slice A0_1 l0_1.length c0_1] 27 (0, 0)) (qK BK281.out) hg (Kd.R_ne HO_11.out BK281.out (by decide))); have n2_ := Aside0.mk (hb); have n3_ := Aside0.mk (ho); clear HO_53; clear BK281; clear HB; clear HO_11; have HO_53 := n0_; have BK281 := n1_; have HB := n2_; have HO299 := n3_; clear n0_ n1_ n2_ n3_; clear ho hb hg hat))
                          go_roundg k2
                          case measure => have := HK1.out; have := HK2.out; omega
                          case rel => exact ⟨(y297), (wrap64 (x55_2 + 1)), qS, H', ⟨by have := HK1.out; have := HK2.out; omega⟩, ⟨qR HO299.out⟩, ⟨by (with_reducible repeat (first | apply Kd.R_alloc | apply Kd.R_drewN | apply Kd.R_drew)); exact Kd.R_mono HO_53.out (fun _ hk => hk.2)⟩, ⟨by (with_reducible repeat (first | refine blk_drewN ?_ _ | refine blk_drew ?_ | refine blk_alloc ?_ _)); exact BK281.out⟩, ⟨qB⟩⟩
                        · rw [if_neg c43] at H
                          exact absurd H (by simp)
                    · rw [if_neg c41] at H
                      exact absurd H (by simp)
                  · rw [if_neg c40] at H
                    exact absurd H (by simp)
                · rw [if_neg c39] at H
                  have c39b0 : decide (x55_2 < (t289.length : Int)) = false := decide_eq_false c39
                  clear c39
                  simp only [Option.some.injEq, Prod.mk.injEq] at H
                  obtain ⟨rfl, rfl, rfl⟩ := H
                  go_wp2
                  go_ret3
                  exact ⟨_, qE, by (with_reducible repeat (first | apply Kd.R_alloc | apply Kd.R_drewN | apply Kd.R_drew)); exact Kd.R_mono HO_11.out (fun _ hk => trivial), qB⟩
  · replace c4 := Bool.eq_false_iff.mpr c4
    subst c4
    have H1 : (some (([] : List Int), false, false)) = some (r1, r2, r3) := by rw [if_neg (show ¬ (false = true) by decide)] at H; exact H
    clear H
    have H := H1
    clear H1
    simp only [Option.some.injEq, Prod.mk.injEq] at H
    obtain ⟨rfl, rfl, rfl⟩ := H
    go_enter Try.func22, Try.ntmps22
    go_wp2_with (first | ((with_reducible refine gate_dst (N := 2) rfl ?_); refine box_event ?hg (N := 2) ?hd (cs := #[.int .i64 a0_0, .slice A0_1 l0_1.length c0_1]) (t := 27) ?hr ?_; (case hd => rfl); (case hg => rfl); (case hr => first | (go_simp; done) | (go_simp; rfl)); intro gb281 hg w45 hbox hb; have n0_ := Aside0.mk (below_step (qB) hb); have n1_ := Aside0.mk (hbox); have n2_ := Aside0.mk ((by rw [hg]; exact (below_size (qB)) : w.heap.size ≤ gb281)); have n3_ := Aside0.mk ((by rw [hg]; exact (below_size (qB)) : w.heap.size ≤ gb281)); clear HB; have HB := n0_; have BK281 := n1_; have GW281 := n2_; have GE281 := n3_; clear n0_ n1_ n2_ n3_; clear hb hbox hg; have hcz46_0 : w45.cell? ⟨gb281, 0, none⟩ = some (.int .i64 a0_0) := (blk_cell BK281.out 0).trans rfl; have hcz46_1 : w45.cell? ⟨gb281, 1, none⟩ = some (.slice A0_1 l0_1.length c0_1) := (blk_cell BK281.out 1).trans rfl; have hfz46_0 := blk_frozen BK281.out 0; have hfz46_1 := blk_frozen BK281.out 1) | ((with_reducible refine gate_callee (f := 12) rfl ?_); refine goesL_ (some 15) rfl rfl Try.func12 (by kernel_rfl) rfl #[.agg #[.int .i64 a0_0, .slice A0_1 l0_1.length c0_1]] rfl qG ?_; (with_reducible refine (impl_GoodCnf.calls a0_0 _ _ l0_1 false _ ?side1 ?side2 A3.out).mono ?_); (case side1 => exact qC (Kd.C_below HR0_1.out HB.out)); (case side2 => exact HC0_1.out); rintro e w47 ⟨rfl, hb⟩; refine ⟨_, rfl, ?_⟩; have n0_ := Aside0.mk (blk_below (g := gb281) (o := .cells #[.int .i64 a0_0, .slice A0_1 l0_1.length c0_1] 27 (0, 0)) (qK BK281.out) hb); have n1_ := Aside0.mk (below_step (qB) hb); clear BK281; clear HB; have BK281 := n0_; have HB := n1_; clear n0_ n1_; (try clear hb); (try clear hb2); (try clear hk); (try clear hi)))
    go_ret3
    exact ⟨_, qE, by first | exact Kd.R_nil _ _ _ _ _ | exact Kd.N_nil _ _ _ _ _ | exact Kd.V_nil _ _ _ _ _ | exact Kd.Q_nil _ _ _ _ _ | exact Kd.S_nil _ _ _ _ _, qB⟩


-- HAND
/-! ### marks0.lean -/
/-- What marking may leave in a cell's place. -/
def sameInt (v v' : Value) : Prop := v' = v ∨ ∃ kd a b, v = .int kd a ∧ v' = .int kd b
theorem sameInt.trans {a b c : Value} (h : sameInt a b) (k : sameInt b c) : sameInt a c := by
  rcases h with rfl | ⟨kd, x, y, rfl, rfl⟩
  · exact k
  · rcases k with rfl | ⟨kd', x', y', he, rfl⟩
    · exact .inr ⟨kd, x, y, rfl, rfl⟩
    · injection he with h1 h2
      subst h1
      exact .inr ⟨kd, x, y', rfl, rfl⟩
/-- W is w where whole numbers in P's blocks have been written over. -/
structure MK (w W : World) (P : Nat → Prop) : Prop where
  os : W.os = w.os
  tape : W.tape = w.tape
  output : W.output = w.output
  size : w.heap.size ≤ W.heap.size
  out : ∀ k : Nat, k < w.heap.size → ¬ P k → W.heap[k]? = w.heap[k]?
  rows : ∀ (k : Nat) (cs : Array Value) e fr, w.heap[k]? = some (Obj.cells cs e fr) → ∃ cs', W.heap[k]? = some (Obj.cells cs' e fr) ∧ ∀ (j : Nat) (v : Value), cs[j]? = some v → ∃ v', cs'[j]? = some v' ∧ sameInt v v'
theorem MK.refl (w : World) (P : Nat → Prop) : MK w w P := ⟨rfl, rfl, rfl, Nat.le_refl _, fun _ _ _ => rfl, fun _ cs _ _ h => ⟨cs, h, fun _ v hv => ⟨v, hv, .inl rfl⟩⟩⟩
theorem MK.trans {a b c : World} {P : Nat → Prop} (h : MK a b P) (k : MK b c P) : MK a c P := by
  refine ⟨k.os.trans h.os, k.tape.trans h.tape, k.output.trans h.output, Nat.le_trans h.size k.size, fun i hi hn => (k.out i (Nat.lt_of_lt_of_le hi h.size) hn).trans (h.out i hi hn), fun i cs e fr hc => ?_⟩
  obtain ⟨cs1, h1, g1⟩ := h.rows i cs e fr hc
  obtain ⟨cs2, h2, g2⟩ := k.rows i cs1 e fr h1
  refine ⟨cs2, h2, fun j v hv => ?_⟩
  obtain ⟨v1, hv1, s1⟩ := g1 j v hv
  obtain ⟨v2, hv2, s2⟩ := g2 j v1 hv1
  exact ⟨v2, hv2, s1.trans s2⟩
theorem MK.of_below {w W : World} (P : Nat → Prop) (h : Below w.heap.size w W) : MK w W P :=
  ⟨h.os, h.tape, h.output, h.size, fun k hk _ => h.block k hk, fun k cs _ _ hc => ⟨cs, (h.block k (blk_lt hc)).trans hc, fun _ v hv => ⟨v, hv, .inl rfl⟩⟩⟩
theorem MK.drewN {w W : World} {P : Nat → Prop} (h : MK w W P) (n : Nat) : MK w (W.drewN n) P := ⟨h.os, h.tape, h.output, h.size, h.out, h.rows⟩
theorem MK.drew {w W : World} {P : Nat → Prop} (h : MK w W P) : MK w W.drew P := h.drewN 1
theorem MK.kept {w W : World} {P : Nat → Prop} (h : MK w W P) : Kept w W P := ⟨h.size, h.out⟩
theorem MK.below {w0 w W : World} {P : Nat → Prop} (h : MK w W P) (hB : Below w0.heap.size w0 w) (hP : ∀ k, P k → w0.heap.size ≤ k) : Below w0.heap.size w0 W :=
  ⟨h.os.trans hB.os, h.tape.trans hB.tape, h.output.trans hB.output, Nat.le_trans hB.size h.size, fun k hk => (h.out k (Nat.lt_of_lt_of_le hk hB.size) (fun hp => by have := hP k hp; omega)).trans (hB.block k hk)⟩
theorem MK.set {w W : World} {P : Nat → Prop} (h : MK w W P) {g j : Nat} {cs : Array Value} {e : TypeId} {kd : IntKind} {x : Int} (hb : W.heap[g]? = some (.cells cs e (0, 0))) (hc : cs[j]? = some (.int kd x)) (hP : P g) (y : Int) : MK w (W.setCell ⟨g, j, none⟩ (.int kd y)) P := by
  refine h.trans ⟨rfl, rfl, rfl, by simp [World.setCell], fun k hk hn => Below.heap_setCell _ _ _ _ (fun e => hn (by rw [e]; exact hP)), fun k cs1 e1 fr hk => ?_⟩
  by_cases hkg : k = g
  · subst hkg
    rw [hb] at hk
    injection hk with hk
    injection hk with h1 h2 h3
    subst h1 h2 h3
    refine ⟨_, blk_set hb j _, fun i v hv => ?_⟩
    rw [Array.getElem?_setIfInBounds]
    by_cases hij : j = i
    · subst hij
      rw [if_pos rfl]
      rw [hc] at hv
      injection hv with hv
      subst hv
      have : j < cs.size := by
        rcases Nat.lt_or_ge j cs.size with h | h
        · exact h
        · rw [Array.getElem?_eq_none h] at hc; cases hc
      rw [if_pos this]
      exact ⟨_, rfl, .inr ⟨kd, x, y, rfl, rfl⟩⟩
    · rw [if_neg hij]
      exact ⟨v, hv, .inl rfl⟩
  · exact ⟨cs1, (Below.heap_setCell _ _ _ _ hkg).trans hk, fun _ v hv => ⟨v, hv, .inl rfl⟩⟩
/-- A row whose cells are as Q says. -/
def MRow (w : World) (e : Nat) (m : Nat) (P : Nat → Prop) (Q : Nat → Value → Prop) (v : Value) (n : Nat) : Prop :=
  (n = 0 ∧ ∃ A c, v = .slice A 0 c) ∨ ∃ g c cs, v = .slice (some ⟨g, 0, none⟩) n c ∧ w.heap[g]? = some (.cells cs e (0, 0)) ∧ P g ∧ ∀ j, j < m → ∃ x, cs[j]? = some x ∧ Q j x
theorem MRow.move {w W : World} {e m n : Nat} {P P' : Nat → Prop} {Q : Nat → Value → Prop} {v : Value} (h : MRow w e m P Q v n) (hm : MK w W P') (hQ : ∀ j x x', Q j x → sameInt x x' → Q j x') : MRow W e m P Q v n := by
  rcases h with h | ⟨g, c, cs, hv, hb, hp, hq⟩
  · exact .inl h
  · obtain ⟨cs', hb', hc'⟩ := hm.rows g cs e _ hb
    refine .inr ⟨g, c, cs', hv, hb', hp, fun j hj => ?_⟩
    obtain ⟨x, hx, qx⟩ := hq j hj
    obtain ⟨x', hx', hs⟩ := hc' j x hx
    exact ⟨x', hx', hQ j x x' qx hs⟩
def isInt (kd : IntKind) (x : Value) : Prop := ∃ y, x = .int kd y
theorem isInt.move {kd : IntKind} {x x' : Value} (h : isInt kd x) (hs : sameInt x x') : isInt kd x' := by
  obtain ⟨y, rfl⟩ := h
  rcases hs with rfl | ⟨kd', a, b, he, rfl⟩
  · exact ⟨y, rfl⟩
  · injection he with h1 h2
    subst h1
    exact ⟨b, rfl⟩
theorem slice_move {A : Option Addr} {n c : Nat} {x' : Value} (hs : sameInt (.slice A n c) x') : x' = .slice A n c := by
  rcases hs with rfl | ⟨kd', a, b, he, rfl⟩
  · rfl
  · cases he
/-- A row of the call's own, cell by cell. -/
theorem MRow.of_R {α : Type} {d : Kd α} {e base : Nat} {w : World} {P : Nat → Prop} {v : Value} {l : List α} (z : α) (h : d.R e w base P v l) (Q : Nat → Value → Prop)
    (hQ : ∀ i, i < l.length → ∀ c, c.length = d.sz → d.M w base P (l.getD i z) c → ∀ q x, c[q]? = some x → Q (i * d.sz + q) x) : MRow w e (l.length * d.sz) P Q v l.length := by
  rcases Nat.eq_zero_or_pos l.length with h0 | h0
  · left
    obtain ⟨A, c, hv⟩ := Kd.R_slice h
    exact ⟨h0, A, c, by rw [hv, h0]⟩
  · right
    obtain ⟨g, c, hv, _, _, cs, hb⟩ := Kd.R_form h h0
    subst hv
    refine ⟨g, c, cs, rfl, hb, h.1 g rfl, fun j hj => ?_⟩
    have hsz : 0 < d.sz := by
      rcases Nat.eq_zero_or_pos d.sz with h1 | h1
      · rw [h1, Nat.mul_zero] at hj; omega
      · exact h1
    have hi : j / d.sz < l.length := Nat.div_lt_of_lt_mul (by rw [Nat.mul_comm]; exact hj)
    have hq : j % d.sz < d.sz := Nat.mod_lt _ hsz
    have hj2 : j / d.sz * d.sz + j % d.sz = j := by rw [Nat.mul_comm]; exact Nat.div_add_mod _ _
    obtain ⟨cl, hcl, hM, hcc, _⟩ := Kd.R_elem h z ((j / d.sz : Nat) : Int) (Int.natCast_nonneg _) (Int.ofNat_lt.mpr hi)
    rw [Int.toNat_natCast] at hM hcc
    have hx : cl[j % d.sz]? = some (cl[j % d.sz]'(by rw [hcl]; exact hq)) := List.getElem?_eq_getElem _
    have h1 := hcc _ _ hx
    rw [blk_cell hb, hj2] at h1
    refine ⟨_, h1, ?_⟩
    have h2 := hQ _ hi cl hcl (d.M_mono (fun _ hk => hk.1) hM) _ _ hx
    rw [hj2] at h2
    exact h2

end Go.Proofs.Ytdmngodinbelfaa.X
