/- Each Go function as a Lean function, with the proof that the call comes to just its answer; or a law's row out of its pure statement. Conditions: the arguments are of their kinds. Written by this session's program wip/xp/xp.sh. -/
import Derived.Test.YtckdgmbmjfhodaaDoorX0
import Derived.Test.YtckdgmbmjfhodaaDoorX7
import Derived.Test.YtckdgmbmjfhodaaDoorX8
import Derived.Test.YtckdgmbmjfhodaaDoorX9
import Derived.Test.YtckdgmbmjfhodaaDoorX10
namespace Go.Proofs.YtckdgmbmjfhodaaDoor.X
open Go.RowKit Go.Proofs.YtckdgmbmjfhodaaDoorW.PrintWords Go.Proofs.YtckdgmbmjfhodaaDoorW.PrintLast Go.Proofs.YtckdgmbmjfhodaaDoorW.PrintMore
attribute [local go_sem] max2_int min2_int max_two min_two max_three min_three max_four min_four   -- for this text's walks alone
set_option linter.unusedVariables false
set_option linter.unusedSimpArgs false

/-! ### impl_GoodTerm: function 12 -/
mutual
def impl_GoodTerm.j0 : Nat → Int → Int → List (S34) → Bool → Option (Bool)
  | 0, _, _, _, _ => none
  | k + 1, x0, x1, x2, x31 => if x31 = true then (some false) else (impl_GoodTerm.l0 k x0 x1 (([] : List Int)) x2 (x2.length : Int) 0)
def impl_GoodTerm.l0 : Nat → Int → Int → List Int → List (S34) → Int → Int → Option (Bool)
  | 0, _, _, _, _, _, _ => none
  | k + 1, x0, x1, x7, x33, x34, x35 => if x35 < x34 then (if 0 ≤ x35 then (if x35 < (x33.length : Int) then ((impl_operandsOf.f k ((rd_T34 x33 x35).f0)).bind fun bt177 => (if bt177.2.2 = 0 then (some false) else ((impl_isLeafRight.f x0 x1 ((rd_T34 x33 x35).f0) ((rd_T34 x33 x35).f1)).bind fun t181 => (if t181 = true then (if (wrap64 ((x7.length : Int) - bt177.1)) < 0 then (some false) else (if 0 ≤ (wrap64 ((x7.length : Int) - bt177.1)) then (if (wrap64 ((x7.length : Int) - bt177.1)) ≤ (x7.length : Int) then ((impl_GoodTerm_any.f (x7.drop ((wrap64 ((x7.length : Int) - bt177.1)) : Int).toNat) bt177.2.1).bind fun t186 => (if t186 = true then (some false) else ((some (x7.take ((wrap64 ((x7.length : Int) - bt177.1)) : Int).toNat : List Int)).bind fun y187 => (if y187.length < 17592186044416 then (impl_GoodTerm.l0 k x0 x1 (y187 ++ [bt177.2.2]) x33 x34 (wrap64 (x35 + 1))) else (none))))) else (none)) else (none))) else (some false))))) else (none)) else (none)) else (some ((x7.length : Int) == 1))
end
def impl_GoodTerm.f (k : Nat) (a0 : Int) (a1 : Int) (l2 : List (S34)) : Option (Bool) := (impl_isWide.f a0).bind fun t170 => (if t170 = true then ((impl_isVars.f a1).bind fun t171 => (if t171 = true then (if (l2.length : Int) < 1 then (impl_GoodTerm.j0 k a0 a1 l2 true) else (impl_GoodTerm.j0 k a0 a1 l2 (decide ((l2.length : Int) > 48)))) else (impl_GoodTerm.j0 k a0 a1 l2 true))) else (impl_GoodTerm.j0 k a0 a1 l2 true))
theorem impl_GoodTerm.mono_l : ∀ k, (∀ y0 y1 y2 y3, LeO (impl_GoodTerm.j0 k y0 y1 y2 y3) (impl_GoodTerm.j0 (k + 1) y0 y1 y2 y3)) ∧ (∀ y0 y1 y2 y3 y4 y5, LeO (impl_GoodTerm.l0 k y0 y1 y2 y3 y4 y5) (impl_GoodTerm.l0 (k + 1) y0 y1 y2 y3 y4 y5))
  | 0 => ⟨fun _ _ _ _ r h => by simp [impl_GoodTerm.j0] at h, fun _ _ _ _ _ _ r h => by simp [impl_GoodTerm.l0] at h⟩
  | k + 1 => by
    obtain ⟨ih0, ih1⟩ := impl_GoodTerm.mono_l k
    refine ⟨?_, ?_⟩
    · intro y0 y1 y2 y3
      unfold impl_GoodTerm.j0
      repeat' first
      | (with_reducible exact ih0 _ _ _ _)
      | (with_reducible exact ih1 _ _ _ _ _ _)
      | (with_reducible exact impl_operandsOf.mono _ _)
      | (with_reducible exact LeO.refl _)
      | (with_reducible exact LeO.none _)
      | (with_reducible refine LeO.ite ?_ ?_)
      | (with_reducible refine LeO.bind ?_ (fun _ => ?_))
      | exact ih0 _ _ _ _
      | exact ih1 _ _ _ _ _ _
      | exact impl_operandsOf.mono _ _
      | exact LeO.none _
      | refine LeO.ite ?_ ?_
      | refine LeO.bind ?_ (fun _ => ?_)
    · intro y0 y1 y2 y3 y4 y5
      unfold impl_GoodTerm.l0
      repeat' first
      | (with_reducible exact ih0 _ _ _ _)
      | (with_reducible exact ih1 _ _ _ _ _ _)
      | (with_reducible exact impl_operandsOf.mono _ _)
      | (with_reducible exact LeO.refl _)
      | (with_reducible exact LeO.none _)
      | (with_reducible refine LeO.ite ?_ ?_)
      | (with_reducible refine LeO.bind ?_ (fun _ => ?_))
      | exact ih0 _ _ _ _
      | exact ih1 _ _ _ _ _ _
      | exact impl_operandsOf.mono _ _
      | exact LeO.none _
      | refine LeO.ite ?_ ?_
      | refine LeO.bind ?_ (fun _ => ?_)
theorem impl_GoodTerm.mono : ∀ a0 a1 a2 k, LeO (impl_GoodTerm.f k a0 a1 a2) (impl_GoodTerm.f (k + 1) a0 a1 a2) := by
  intro a0 a1 a2 k
  obtain ⟨ih0, ih1⟩ := impl_GoodTerm.mono_l k
  unfold impl_GoodTerm.f
  repeat' first
      | (with_reducible exact ih0 _ _ _ _)
      | (with_reducible exact ih1 _ _ _ _ _ _)
      | (with_reducible exact impl_operandsOf.mono _ _)
      | (with_reducible exact LeO.refl _)
      | (with_reducible exact LeO.none _)
      | (with_reducible refine LeO.ite ?_ ?_)
      | (with_reducible refine LeO.bind ?_ (fun _ => ?_))
      | exact ih0 _ _ _ _
      | exact ih1 _ _ _ _ _ _
      | exact impl_operandsOf.mono _ _
      | exact LeO.none _
      | refine LeO.ite ?_ ?_
      | refine LeO.bind ?_ (fun _ => ?_)
set_option maxHeartbeats 8000000 in
set_option maxRecDepth 100000 in
theorem impl_GoodTerm.calls (k : Nat) (a0 : Int) (a1 : Int) (A2 : Option Addr) (c2 : Nat) (l2 : List (S34)) (r : Bool) (w : World) (hr2 : Kd.C k34 w A2 l2.length l2) (hc2 : l2.length ≤ c2) (h : impl_GoodTerm.f k a0 a1 l2 = some r) :
    Calls Tryd.prog 12 #[.int .i64 a0, .int .i64 a1, .slice A2 l2.length c2] w fun e w' => e = .returned (.bool r) ∧ Below w.heap.size w w' := by
  have hu34 := Tryd.underlying34
  have HR2 := Aside0.mk hr2
  have HC2 := Aside0.mk hc2
  clear hr2 hc2
  have HB := Aside0.mk (Below.refl w.heap.size w)
  have H : ((impl_isWide.f a0).bind fun t170 => (if t170 = true then ((impl_isVars.f a1).bind fun t171 => (if t171 = true then (if (l2.length : Int) < 1 then (impl_GoodTerm.j0 k a0 a1 l2 true) else (impl_GoodTerm.j0 k a0 a1 l2 (decide ((l2.length : Int) > 48)))) else (impl_GoodTerm.j0 k a0 a1 l2 true))) else (impl_GoodTerm.j0 k a0 a1 l2 true))) = some r := h
  clear h
  have HC4 := Aside0.mk H
  clear H
  go_enter Tryd.func12, Tryd.ntmps12
  go_upto_region 1 with (fail)
  go_cut [31] (fun v31 wc => ∃ (kq : Nat) (x31_3 : Bool), v31 = .bool x31_3 ∧ Aside0 (impl_GoodTerm.j0 kq a0 a1 l2 x31_3 = some r) ∧ Aside0 (kq ≤ k) ∧ Aside0 (Below w.heap.size w wc))
  case first =>
    have H := HC4.out
    clear HC4
    replace H := Option.bind_eq_some_iff.mp H
    obtain ⟨t170, A50, H⟩ := H
    replace H : (if t170 = true then ((impl_isVars.f a1).bind fun t171 => (if t171 = true then (if (l2.length : Int) < 1 then (impl_GoodTerm.j0 k a0 a1 l2 true) else (impl_GoodTerm.j0 k a0 a1 l2 (decide ((l2.length : Int) > 48)))) else (impl_GoodTerm.j0 k a0 a1 l2 true))) else (impl_GoodTerm.j0 k a0 a1 l2 true)) = some r := H
    have A5 := Aside0.mk A50
    clear A50
    by_cases c6 : t170 = true
    · subst c6
      have H1 : ((impl_isVars.f a1).bind fun t171 => (if t171 = true then (if (l2.length : Int) < 1 then (impl_GoodTerm.j0 k a0 a1 l2 true) else (impl_GoodTerm.j0 k a0 a1 l2 (decide ((l2.length : Int) > 48)))) else (impl_GoodTerm.j0 k a0 a1 l2 true))) = some r := by rw [if_pos rfl] at H; exact H
      clear H
      have H := H1
      clear H1
      replace H := Option.bind_eq_some_iff.mp H
      obtain ⟨t171, A70, H⟩ := H
      replace H : (if t171 = true then (if (l2.length : Int) < 1 then (impl_GoodTerm.j0 k a0 a1 l2 true) else (impl_GoodTerm.j0 k a0 a1 l2 (decide ((l2.length : Int) > 48)))) else (impl_GoodTerm.j0 k a0 a1 l2 true)) = some r := H
      have A7 := Aside0.mk A70
      clear A70
      by_cases c8 : t171 = true
      · subst c8
        have H1 : (if (l2.length : Int) < 1 then (impl_GoodTerm.j0 k a0 a1 l2 true) else (impl_GoodTerm.j0 k a0 a1 l2 (decide ((l2.length : Int) > 48)))) = some r := by rw [if_pos rfl] at H; exact H
        clear H
        have H := H1
        clear H1
        by_cases c9 : (l2.length : Int) < 1
        · rw [if_pos c9] at H
          have c9b0 : decide ((l2.length : Int) < 1) = true := decide_eq_true c9
          have c9b1 : decide (l2.length < 1) = true := decide_eq_true (by omega)
          clear c9
          (first | rw [c9b0] | (simp only [i64_w, i32_w]; rw [c9b0]) | skip)
          have H' := Aside0.mk H
          clear H
          go_wp2_with (first | ((with_reducible refine gate_callee (f := 21) rfl ?_); refine goesL_ (some 15) rfl rfl Tryd.func21 (by kernel_rfl) rfl #[.int .i64 a0] rfl qG ?_; (with_reducible refine (impl_isWide.calls a0 true _ A5.out).mono ?_); rintro e w' ⟨rfl, ⟨nd, rfl⟩⟩; refine ⟨_, rfl, ?_⟩) | (go_at_call 22; (with_reducible refine (impl_isVars.calls a1 true _ A7.out).mono ?_); rintro e w' ⟨rfl, ⟨nd, rfl⟩⟩))
          go_meet
          case rel => exact ⟨_, (true), qS, H', ⟨by first | omega | exact Nat.le_refl _⟩, ⟨qB⟩⟩
        · rw [if_neg c9] at H
          have c9b0 : decide ((l2.length : Int) < 1) = false := decide_eq_false c9
          have c9b1 : decide (l2.length < 1) = false := decide_eq_false (by omega)
          clear c9
          (first | rw [c9b0] | (simp only [i64_w, i32_w]; rw [c9b0]) | skip)
          have H' := Aside0.mk H
          clear H
          go_wp2_with (first | ((with_reducible refine gate_callee (f := 21) rfl ?_); refine goesL_ (some 15) rfl rfl Tryd.func21 (by kernel_rfl) rfl #[.int .i64 a0] rfl qG ?_; (with_reducible refine (impl_isWide.calls a0 true _ A5.out).mono ?_); rintro e w' ⟨rfl, ⟨nd, rfl⟩⟩; refine ⟨_, rfl, ?_⟩) | (go_at_call 22; (with_reducible refine (impl_isVars.calls a1 true _ A7.out).mono ?_); rintro e w' ⟨rfl, ⟨nd, rfl⟩⟩))
          go_meet
          case rel => exact ⟨_, (decide ((l2.length : Int) > 48)), qS, H', ⟨by first | omega | exact Nat.le_refl _⟩, ⟨qB⟩⟩
      · replace c8 := Bool.eq_false_iff.mpr c8
        subst c8
        have H1 : (impl_GoodTerm.j0 k a0 a1 l2 true) = some r := by rw [if_neg (show ¬ (false = true) by decide)] at H; exact H
        clear H
        have H := H1
        clear H1
        have H' := Aside0.mk H
        clear H
        go_wp2_with (first | ((with_reducible refine gate_callee (f := 21) rfl ?_); refine goesL_ (some 15) rfl rfl Tryd.func21 (by kernel_rfl) rfl #[.int .i64 a0] rfl qG ?_; (with_reducible refine (impl_isWide.calls a0 true _ A5.out).mono ?_); rintro e w' ⟨rfl, ⟨nd, rfl⟩⟩; refine ⟨_, rfl, ?_⟩) | (go_at_call 22; (with_reducible refine (impl_isVars.calls a1 false _ A7.out).mono ?_); rintro e w' ⟨rfl, ⟨nd, rfl⟩⟩))
        go_meet
        case rel => exact ⟨_, (true), qS, H', ⟨by first | omega | exact Nat.le_refl _⟩, ⟨qB⟩⟩
    · replace c6 := Bool.eq_false_iff.mpr c6
      subst c6
      have H1 : (impl_GoodTerm.j0 k a0 a1 l2 true) = some r := by rw [if_neg (show ¬ (false = true) by decide)] at H; exact H
      clear H
      have H := H1
      clear H1
      have H' := Aside0.mk H
      clear H
      go_wp2_with (first | ((with_reducible refine gate_callee (f := 21) rfl ?_); refine goesL_ (some 15) rfl rfl Tryd.func21 (by kernel_rfl) rfl #[.int .i64 a0] rfl qG ?_; (with_reducible refine (impl_isWide.calls a0 false _ A5.out).mono ?_); rintro e w' ⟨rfl, ⟨nd, rfl⟩⟩; refine ⟨_, rfl, ?_⟩))
      go_meet
      case rel => exact ⟨_, (true), qS, H', ⟨by first | omega | exact Nat.le_refl _⟩, ⟨qB⟩⟩
  case rest =>
    clear HC4
    try clear c1
    try clear c2
    try clear p2
    try clear c6
    try clear c8
    try clear c9
    try clear c9b0
    try clear c9b1
    obtain ⟨kq, x31_3, rfl, HA, HJ3, HB⟩ := hcut
    cases kq with
    | zero => exact absurd HA.out (by simp [impl_GoodTerm.j0])
    | succ kj3 =>
      have H := HA.out
      clear HA
      simp only [impl_GoodTerm.j0] at H
      by_cases c10 : x31_3 = true
      · subst c10
        have H1 : (some false) = some r := by rw [if_pos rfl] at H; exact H
        clear H
        have H := H1
        clear H1
        obtain rfl := Option.some.inj H
        go_wp2
        go_ret
        exact ⟨qE, qB⟩
      · replace c10 := Bool.eq_false_iff.mpr c10
        subst c10
        have H1 : (impl_GoodTerm.l0 kj3 a0 a1 (([] : List Int)) l2 (l2.length : Int) 0) = some r := by rw [if_neg (show ¬ (false = true) by decide)] at H; exact H
        clear H
        have H := H1
        clear H1
        obtain ⟨y172, hy172⟩ : ∃ y_ : List Int, y_ = (([] : List Int)) := ⟨_, rfl⟩
        replace H : (impl_GoodTerm.l0 kj3 a0 a1 y172 l2 (l2.length : Int) 0) = some r := qY hy172 H
        have Ny172 := Aside0.mk hy172
        clear hy172
        have H' := Aside0.mk H
        clear H
        go_wp2_with (first | ((with_reducible refine gate_dst (N := 32) rfl ?_); (try (refine gate_guard (by rfl) ?_; dsimp only)); refine Kd.R_lit (Kd.int .i64) _ 3 ?hg (N := 32) ?hd (xs := ([] : List Int)) (inner := []) (ok := fun _ => True) (okp := fun _ => True) ?hr ?hp (fun _ hk => hk) trivial (Below.refl _ _) (Nat.le_refl _) (by simp) ?_; (case hd => rfl); (case hg => rfl); (case hr => first | (go_simp; done) | (go_simp; rfl)); (case hp => exact (Reps.none _ _)); intro v173 w11 ho12 hb hg_ hnew_; clear hg_ hnew_; (first | rw [← Ny172.out] at ho12 | (simp only [Int.reduceToNat] at ho12; rw [← Ny172.out] at ho12)); have n0_ := Aside0.mk (Kd.R_lower ho12 (below_size (qB))); have n1_ := Aside0.mk (below_step (qB) hb); clear HB; have HO174 := n0_; have HB := n1_; clear n0_ n1_; clear hb ho12))
        go_loopg [7, 35] kj3 (fun kq v7 v35 w' => ∃ (x7_2 : List Int) (x35_2 : Int), v35 = .int .i64 x35_2 ∧ Aside0 (impl_GoodTerm.l0 kq a0 a1 x7_2 l2 (l2.length : Int) x35_2 = some r) ∧ Aside0 (kq ≤ kj3) ∧ Aside0 (Kd.R (Kd.int .i64) 3 w' w.heap.size (fun _ => True) v7 x7_2) ∧ Aside0 (Below w.heap.size w w'))
        case atStart => exact ⟨(y172), (0), qS, H', ⟨Nat.le_refl _⟩, ⟨qR HO174.out⟩, ⟨qB⟩⟩
        case round =>
          clear H'
          try clear c1
          try clear c2
          try clear p2
          try clear c6
          try clear c8
          try clear c9
          try clear c9b0
          try clear c9b1
          try clear c10
          try clear c12
          try clear p2
          obtain ⟨x7_2, x35_2, rfl, HA, HK2, HO_7, HB⟩ := hrel
          cases gk with
          | zero => exact absurd HA.out (by simp [impl_GoodTerm.l0])
          | succ k2 =>
            have H := HA.out
            clear HA
            simp only [impl_GoodTerm.l0] at H
            by_cases c13 : x35_2 < (l2.length : Int)
            · rw [if_pos c13] at H
              have c13b0 : decide (x35_2 < (l2.length : Int)) = true := decide_eq_true c13
              clear c13
              by_cases c14 : 0 ≤ x35_2
              · rw [if_pos c14] at H
                have c14b0 : decide (0 ≤ x35_2) = true := decide_eq_true c14
                clear c14
                by_cases c15 : x35_2 < (l2.length : Int)
                · rw [if_pos c15] at H
                  have c15b0 : decide (x35_2 < (l2.length : Int)) = true := decide_eq_true c15
                  clear c15
                  replace H := Option.bind_eq_some_iff.mp H
                  obtain ⟨⟨t177, t178, t179⟩, A160, H⟩ := H
                  replace H : (if t179 = 0 then (some false) else ((impl_isLeafRight.f a0 a1 ((rd_T34 l2 x35_2).f0) ((rd_T34 l2 x35_2).f1)).bind fun t181 => (if t181 = true then (if (wrap64 ((x7_2.length : Int) - t177)) < 0 then (some false) else (if 0 ≤ (wrap64 ((x7_2.length : Int) - t177)) then (if (wrap64 ((x7_2.length : Int) - t177)) ≤ (x7_2.length : Int) then ((impl_GoodTerm_any.f (x7_2.drop ((wrap64 ((x7_2.length : Int) - t177)) : Int).toNat) t178).bind fun t186 => (if t186 = true then (some false) else ((some (x7_2.take ((wrap64 ((x7_2.length : Int) - t177)) : Int).toNat : List Int)).bind fun y187 => (if y187.length < 17592186044416 then (impl_GoodTerm.l0 k2 a0 a1 (y187 ++ [t179]) l2 (l2.length : Int) (wrap64 (x35_2 + 1))) else (none))))) else (none)) else (none))) else (some false)))) = some r := H
                  have A16 := Aside0.mk A160
                  clear A160
                  by_cases c17 : t179 = 0
                  · rw [if_pos c17] at H
                    have c17b0 : (t179 == 0) = true := beq_iff_eq.mpr c17
                    have c17b1 : (t179 != 0) = false := bne_eq_false_iff_eq.mpr c17
                    clear c17
                    obtain rfl := Option.some.inj H
                    have p175 : 0 ≤ (x35_2 : Int) := qD
                    have q175 : x35_2 < (l2.length : Int) := qD
                    obtain ⟨ad175, e175, hx175_0, hx175_1⟩ := at_T34 HR2.out x35_2 p175 q175
                    cases e175
                    replace hx175_0 := (HB.out.cell (World.block_lt_of_cell? w _ hx175_0)).trans hx175_0
                    replace hx175_1 := (HB.out.cell (World.block_lt_of_cell? w _ hx175_1)).trans hx175_1
                    replace p175 := eq_true p175
                    replace q175 := eq_true q175
                    go_wp2_with (first | ((with_reducible refine gate_dst (N := 9) rfl ?_); (try (refine gate_guard (by rfl) ?_; dsimp only)); refine box_event ?hg (N := 9) ?hd (cs := #[.int .i64 0, .int .u64 0]) (t := 34) ?hr ?_; (case hd => rfl); (case hg => rfl); (case hr => first | (go_simp; done) | (go_simp; rfl)); intro gb176 hg w18 hbox hb; have n0_ := Aside0.mk (Kd.R_below (qR HO_7.out) hb); have n1_ := Aside0.mk (below_step (qB) hb); have n2_ := Aside0.mk (hbox); have n3_ := Aside0.mk ((by rw [hg]; exact (below_size (qB)) : w.heap.size ≤ gb176)); have n4_ := Aside0.mk ((by rw [hg]; exact (below_size (qB)) : w.heap.size ≤ gb176)); clear HO_7; clear HB; have HO_7 := n0_; have HB := n1_; have BK176 := n2_; have GW176 := n3_; have GE176 := n4_; clear n0_ n1_ n2_ n3_ n4_; clear hb hbox hg; have hcz19_0 : w18.cell? ⟨gb176, 0, none⟩ = some (.int .i64 0) := (blk_cell BK176.out 0).trans rfl; have hcz19_1 : w18.cell? ⟨gb176, 1, none⟩ = some (.int .u64 0) := (blk_cell BK176.out 1).trans rfl; have hfz19_0 := blk_frozen BK176.out 0; have hfz19_1 := blk_frozen BK176.out 1) | ((with_reducible refine gate_callee (f := 23) rfl ?_); refine goesL_ (some 42) rfl rfl Tryd.func23 (by kernel_rfl) rfl #[.int .i64 ((rd_T34 l2 x35_2).f0)] rfl qG ?_; (with_reducible refine (impl_operandsOf.calls k2 ((rd_T34 l2 x35_2).f0) t177 t178 t179 _ A16.out).mono ?_); rintro e w' ⟨rfl, ⟨nd, rfl⟩⟩; refine ⟨_, rfl, ?_⟩) | ((with_reducible refine gate_dst (N := 11) rfl ?_); (try (refine gate_guard (by rfl) ?_; dsimp only)); refine box_event ?hg (N := 11) ?hd (cs := #[.int .i64 0]) (t := 3) ?hr ?_; (case hd => rfl); (case hg => rfl); (case hr => first | (go_simp; done) | (go_simp; rfl)); intro gb180 hg w20 hbox hb; have n0_ := Aside0.mk (Kd.R_below (Kd.R_elderB (by (with_reducible repeat (first | apply Kd.R_alloc | apply Kd.R_drewN | apply Kd.R_drew)); exact (Kd.R_mono (Kd.R_far (p := ⟨gb176, 1, none⟩) (Kd.R_far (p := ⟨gb176, 0, none⟩) (Kd.R_types HO_7.out BK176.out (by decide)) (fun _ hk => hk.2) (.int .i64 ((rd_T34 l2 x35_2).f0))) (fun _ hk => hk.2) (.int .u64 ((rd_T34 l2 x35_2).f1))) (fun _ h_ => h_.1))) gb180 (Nat.le_of_eq hg.symm)) hb); have n1_ := Aside0.mk (blk_below (g := gb176) (o := .cells #[.int .i64 ((rd_T34 l2 x35_2).f0), .int .u64 ((rd_T34 l2 x35_2).f1)] 34 (0, 0)) (by (with_reducible repeat (first | refine blk_drewN ?_ _ | refine blk_drew ?_ | refine blk_alloc ?_ _)); refine blk_put (cs := #[.int .i64 ((rd_T34 l2 x35_2).f0), .int .u64 0]) ?_ 1 _ rfl; (with_reducible repeat (first | refine blk_drewN ?_ _ | refine blk_drew ?_ | refine blk_alloc ?_ _)); refine blk_put (cs := #[.int .i64 0, .int .u64 0]) ?_ 0 _ rfl; (with_reducible repeat (first | refine blk_drewN ?_ _ | refine blk_drew ?_ | refine blk_alloc ?_ _)); exact BK176.out) hb); have n2_ := Aside0.mk (below_step (qB) hb); have n3_ := Aside0.mk (hbox); have n4_ := Aside0.mk ((by rw [hg]; exact (below_size (qB)) : w.heap.size ≤ gb180)); have n5_ := Aside0.mk ((by rw [hg]; exact (below_size (qB)) : w.heap.size ≤ gb180)); have n6_ := Aside0.mk ((by rw [hg]; exact Nat.ne_of_lt (blk_lt (g := gb176) (o := .cells #[.int .i64 ((rd_T34 l2 x35_2).f0), .int .u64 ((rd_T34 l2 x35_2).f1)] 34 (0, 0)) (by (with_reducible repeat (first | refine blk_drewN ?_ _ | refine blk_drew ?_ | refine blk_alloc ?_ _)); refine blk_put (cs := #[.int .i64 ((rd_T34 l2 x35_2).f0), .int .u64 0]) ?_ 1 _ rfl; (with_reducible repeat (first | refine blk_drewN ?_ _ | refine blk_drew ?_ | refine blk_alloc ?_ _)); refine blk_put (cs := #[.int .i64 0, .int .u64 0]) ?_ 0 _ rfl; (with_reducible repeat (first | refine blk_drewN ?_ _ | refine blk_drew ?_ | refine blk_alloc ?_ _)); exact BK176.out)) : gb176 ≠ gb180)); have n7_ := Aside0.mk ((by rw [hg]; exact Nat.ne_of_gt (blk_lt (g := gb176) (o := .cells #[.int .i64 ((rd_T34 l2 x35_2).f0), .int .u64 ((rd_T34 l2 x35_2).f1)] 34 (0, 0)) (by (with_reducible repeat (first | refine blk_drewN ?_ _ | refine blk_drew ?_ | refine blk_alloc ?_ _)); refine blk_put (cs := #[.int .i64 ((rd_T34 l2 x35_2).f0), .int .u64 0]) ?_ 1 _ rfl; (with_reducible repeat (first | refine blk_drewN ?_ _ | refine blk_drew ?_ | refine blk_alloc ?_ _)); refine blk_put (cs := #[.int .i64 0, .int .u64 0]) ?_ 0 _ rfl; (with_reducible repeat (first | refine blk_drewN ?_ _ | refine blk_drew ?_ | refine blk_alloc ?_ _)); exact BK176.out)) : gb180 ≠ gb176)); clear HO_7; clear BK176; clear HB; have HO_7 := n0_; have BK176 := n1_; have HB := n2_; have BK180 := n3_; have GW180 := n4_; have GE180 := n5_; have NB176_180 := n6_; have NB180_176 := n7_; clear n0_ n1_ n2_ n3_ n4_ n5_ n6_ n7_; clear hb hbox hg; have hnb21 := NB180_176.out; have hnc21 := NB176_180.out; have hcz22_0 : w20.cell? ⟨gb180, 0, none⟩ = some (.int .i64 0) := (blk_cell BK180.out 0).trans rfl; have hfz22_0 := blk_frozen BK180.out 0; obtain ⟨Ao23, co23, eo23⟩ := Kd.R_slice HO_7.out; subst eo23))
                    go_ret
                    exact ⟨qE, qB⟩
                  · rw [if_neg c17] at H
                    have c17b0 : (t179 == 0) = false := beq_eq_false_iff_ne.mpr c17
                    have c17b1 : (t179 != 0) = true := bne_iff_ne.mpr c17
                    replace H := Option.bind_eq_some_iff.mp H
                    obtain ⟨t181, A240, H⟩ := H
                    replace H : (if t181 = true then (if (wrap64 ((x7_2.length : Int) - t177)) < 0 then (some false) else (if 0 ≤ (wrap64 ((x7_2.length : Int) - t177)) then (if (wrap64 ((x7_2.length : Int) - t177)) ≤ (x7_2.length : Int) then ((impl_GoodTerm_any.f (x7_2.drop ((wrap64 ((x7_2.length : Int) - t177)) : Int).toNat) t178).bind fun t186 => (if t186 = true then (some false) else ((some (x7_2.take ((wrap64 ((x7_2.length : Int) - t177)) : Int).toNat : List Int)).bind fun y187 => (if y187.length < 17592186044416 then (impl_GoodTerm.l0 k2 a0 a1 (y187 ++ [t179]) l2 (l2.length : Int) (wrap64 (x35_2 + 1))) else (none))))) else (none)) else (none))) else (some false)) = some r := H
                    have A24 := Aside0.mk A240
                    clear A240
                    by_cases c25 : t181 = true
                    · subst c25
                      have H1 : (if (wrap64 ((x7_2.length : Int) - t177)) < 0 then (some false) else (if 0 ≤ (wrap64 ((x7_2.length : Int) - t177)) then (if (wrap64 ((x7_2.length : Int) - t177)) ≤ (x7_2.length : Int) then ((impl_GoodTerm_any.f (x7_2.drop ((wrap64 ((x7_2.length : Int) - t177)) : Int).toNat) t178).bind fun t186 => (if t186 = true then (some false) else ((some (x7_2.take ((wrap64 ((x7_2.length : Int) - t177)) : Int).toNat : List Int)).bind fun y187 => (if y187.length < 17592186044416 then (impl_GoodTerm.l0 k2 a0 a1 (y187 ++ [t179]) l2 (l2.length : Int) (wrap64 (x35_2 + 1))) else (none))))) else (none)) else (none))) = some r := by rw [if_pos rfl] at H; exact H
                      clear H
                      have H := H1
                      clear H1
                      by_cases c26 : (wrap64 ((x7_2.length : Int) - t177)) < 0
                      · rw [if_pos c26] at H
                        have c26b0 : decide ((wrap64 ((x7_2.length : Int) - t177)) < 0) = true := decide_eq_true c26
                        clear c26
                        obtain rfl := Option.some.inj H
                        have p175 : 0 ≤ (x35_2 : Int) := qD
                        have q175 : x35_2 < (l2.length : Int) := qD
                        obtain ⟨ad175, e175, hx175_0, hx175_1⟩ := at_T34 HR2.out x35_2 p175 q175
                        cases e175
                        replace hx175_0 := (HB.out.cell (World.block_lt_of_cell? w _ hx175_0)).trans hx175_0
                        replace hx175_1 := (HB.out.cell (World.block_lt_of_cell? w _ hx175_1)).trans hx175_1
                        replace p175 := eq_true p175
                        replace q175 := eq_true q175
                        go_wp2_with (first | ((with_reducible refine gate_dst (N := 9) rfl ?_); (try (refine gate_guard (by rfl) ?_; dsimp only)); refine box_event ?hg (N := 9) ?hd (cs := #[.int .i64 0, .int .u64 0]) (t := 34) ?hr ?_; (case hd => rfl); (case hg => rfl); (case hr => first | (go_simp; done) | (go_simp; rfl)); intro gb176 hg w27 hbox hb; have n0_ := Aside0.mk (Kd.R_below (qR HO_7.out) hb); have n1_ := Aside0.mk (below_step (qB) hb); have n2_ := Aside0.mk (hbox); have n3_ := Aside0.mk ((by rw [hg]; exact (below_size (qB)) : w.heap.size ≤ gb176)); have n4_ := Aside0.mk ((by rw [hg]; exact (below_size (qB)) : w.heap.size ≤ gb176)); clear HO_7; clear HB; have HO_7 := n0_; have HB := n1_; have BK176 := n2_; have GW176 := n3_; have GE176 := n4_; clear n0_ n1_ n2_ n3_ n4_; clear hb hbox hg; have hcz28_0 : w27.cell? ⟨gb176, 0, none⟩ = some (.int .i64 0) := (blk_cell BK176.out 0).trans rfl; have hcz28_1 : w27.cell? ⟨gb176, 1, none⟩ = some (.int .u64 0) := (blk_cell BK176.out 1).trans rfl; have hfz28_0 := blk_frozen BK176.out 0; have hfz28_1 := blk_frozen BK176.out 1) | ((with_reducible refine gate_callee (f := 23) rfl ?_); refine goesL_ (some 42) rfl rfl Tryd.func23 (by kernel_rfl) rfl #[.int .i64 ((rd_T34 l2 x35_2).f0)] rfl qG ?_; (with_reducible refine (impl_operandsOf.calls k2 ((rd_T34 l2 x35_2).f0) t177 t178 t179 _ A16.out).mono ?_); rintro e w' ⟨rfl, ⟨nd, rfl⟩⟩; refine ⟨_, rfl, ?_⟩) | ((with_reducible refine gate_dst (N := 11) rfl ?_); (try (refine gate_guard (by rfl) ?_; dsimp only)); refine box_event ?hg (N := 11) ?hd (cs := #[.int .i64 0]) (t := 3) ?hr ?_; (case hd => rfl); (case hg => rfl); (case hr => first | (go_simp; done) | (go_simp; rfl)); intro gb180 hg w29 hbox hb; have n0_ := Aside0.mk (Kd.R_below (Kd.R_elderB (by (with_reducible repeat (first | apply Kd.R_alloc | apply Kd.R_drewN | apply Kd.R_drew)); exact (Kd.R_mono (Kd.R_far (p := ⟨gb176, 1, none⟩) (Kd.R_far (p := ⟨gb176, 0, none⟩) (Kd.R_types HO_7.out BK176.out (by decide)) (fun _ hk => hk.2) (.int .i64 ((rd_T34 l2 x35_2).f0))) (fun _ hk => hk.2) (.int .u64 ((rd_T34 l2 x35_2).f1))) (fun _ h_ => h_.1))) gb180 (Nat.le_of_eq hg.symm)) hb); have n1_ := Aside0.mk (blk_below (g := gb176) (o := .cells #[.int .i64 ((rd_T34 l2 x35_2).f0), .int .u64 ((rd_T34 l2 x35_2).f1)] 34 (0, 0)) (by (with_reducible repeat (first | refine blk_drewN ?_ _ | refine blk_drew ?_ | refine blk_alloc ?_ _)); refine blk_put (cs := #[.int .i64 ((rd_T34 l2 x35_2).f0), .int .u64 0]) ?_ 1 _ rfl; (with_reducible repeat (first | refine blk_drewN ?_ _ | refine blk_drew ?_ | refine blk_alloc ?_ _)); refine blk_put (cs := #[.int .i64 0, .int .u64 0]) ?_ 0 _ rfl; (with_reducible repeat (first | refine blk_drewN ?_ _ | refine blk_drew ?_ | refine blk_alloc ?_ _)); exact BK176.out) hb); have n2_ := Aside0.mk (below_step (qB) hb); have n3_ := Aside0.mk (hbox); have n4_ := Aside0.mk ((by rw [hg]; exact (below_size (qB)) : w.heap.size ≤ gb180)); have n5_ := Aside0.mk ((by rw [hg]; exact (below_size (qB)) : w.heap.size ≤ gb180)); have n6_ := Aside0.mk ((by rw [hg]; exact Nat.ne_of_lt (blk_lt (g := gb176) (o := .cells #[.int .i64 ((rd_T34 l2 x35_2).f0), .int .u64 ((rd_T34 l2 x35_2).f1)] 34 (0, 0)) (by (with_reducible repeat (first | refine blk_drewN ?_ _ | refine blk_drew ?_ | refine blk_alloc ?_ _)); refine blk_put (cs := #[.int .i64 ((rd_T34 l2 x35_2).f0), .int .u64 0]) ?_ 1 _ rfl; (with_reducible repeat (first | refine blk_drewN ?_ _ | refine blk_drew ?_ | refine blk_alloc ?_ _)); refine blk_put (cs := #[.int .i64 0, .int .u64 0]) ?_ 0 _ rfl; (with_reducible repeat (first | refine blk_drewN ?_ _ | refine blk_drew ?_ | refine blk_alloc ?_ _)); exact BK176.out)) : gb176 ≠ gb180)); have n7_ := Aside0.mk ((by rw [hg]; exact Nat.ne_of_gt (blk_lt (g := gb176) (o := .cells #[.int .i64 ((rd_T34 l2 x35_2).f0), .int .u64 ((rd_T34 l2 x35_2).f1)] 34 (0, 0)) (by (with_reducible repeat (first | refine blk_drewN ?_ _ | refine blk_drew ?_ | refine blk_alloc ?_ _)); refine blk_put (cs := #[.int .i64 ((rd_T34 l2 x35_2).f0), .int .u64 0]) ?_ 1 _ rfl; (with_reducible repeat (first | refine blk_drewN ?_ _ | refine blk_drew ?_ | refine blk_alloc ?_ _)); refine blk_put (cs := #[.int .i64 0, .int .u64 0]) ?_ 0 _ rfl; (with_reducible repeat (first | refine blk_drewN ?_ _ | refine blk_drew ?_ | refine blk_alloc ?_ _)); exact BK176.out)) : gb180 ≠ gb176)); clear HO_7; clear BK176; clear HB; have HO_7 := n0_; have BK176 := n1_; have HB := n2_; have BK180 := n3_; have GW180 := n4_; have GE180 := n5_; have NB176_180 := n6_; have NB180_176 := n7_; clear n0_ n1_ n2_ n3_ n4_ n5_ n6_ n7_; clear hb hbox hg; have hnb30 := NB180_176.out; have hnc30 := NB176_180.out; have hcz31_0 : w29.cell? ⟨gb180, 0, none⟩ = some (.int .i64 0) := (blk_cell BK180.out 0).trans rfl; have hfz31_0 := blk_frozen BK180.out 0; obtain ⟨Ao32, co32, eo32⟩ := Kd.R_slice HO_7.out; subst eo32; have hcz33_0 : w29.cell? ⟨gb176, 0, none⟩ = some (.int .i64 ((rd_T34 l2 x35_2).f0)) := (blk_cell BK176.out 0).trans rfl; have hcz33_1 : w29.cell? ⟨gb176, 1, none⟩ = some (.int .u64 ((rd_T34 l2 x35_2).f1)) := (blk_cell BK176.out 1).trans rfl; have hfz33_0 := blk_frozen BK176.out 0; have hfz33_1 := blk_frozen BK176.out 1) | (go_at_call 24; (with_reducible refine (impl_isLeafRight.calls a0 a1 ((rd_T34 l2 x35_2).f0) ((rd_T34 l2 x35_2).f1) true _ A24.out).mono ?_); rintro e w34 ⟨rfl, hb⟩; have n0_ := Aside0.mk (Kd.R_below (by (with_reducible repeat (first | apply Kd.R_alloc | apply Kd.R_drewN | apply Kd.R_drew)); exact (Kd.R_mono (Kd.R_far (p := ⟨gb180, 0, none⟩) (Kd.R_mono HO_7.out (fun k_ hk => (⟨hk, hk.2⟩ : _ ∧ k_ ≠ gb180))) (fun _ hk => hk.2) (.int .i64 t178)) (fun _ h_ => h_.1))) hb); have n1_ := Aside0.mk (blk_below (g := gb176) (o := .cells #[.int .i64 ((rd_T34 l2 x35_2).f0), .int .u64 ((rd_T34 l2 x35_2).f1)] 34 (0, 0)) (qF BK176.out) hb); have n2_ := Aside0.mk (blk_below (g := gb180) (o := .cells #[.int .i64 t178] 3 (0, 0)) (by (with_reducible repeat (first | refine blk_drewN ?_ _ | refine blk_drew ?_ | refine blk_alloc ?_ _)); refine blk_put (cs := #[.int .i64 0]) ?_ 0 _ rfl; (with_reducible repeat (first | refine blk_drewN ?_ _ | refine blk_drew ?_ | refine blk_alloc ?_ _)); exact BK180.out) hb); have n3_ := Aside0.mk (below_step (qB) hb); clear HO_7; clear BK176; clear BK180; clear HB; have HO_7 := n0_; have BK176 := n1_; have BK180 := n2_; have HB := n3_; clear n0_ n1_ n2_ n3_; (try clear hb); (try clear hb2); (try clear hk); (try clear hi)))
                        go_ret
                        exact ⟨qE, qB⟩
                      · rw [if_neg c26] at H
                        have c26b0 : decide ((wrap64 ((x7_2.length : Int) - t177)) < 0) = false := decide_eq_false c26
                        clear c26
                        obtain ⟨ji35, hji35⟩ : ∃ j_ : Int, (wrap64 ((x7_2.length : Int) - t177)) = j_ := ⟨_, rfl⟩
                        replace H : (if 0 ≤ (ji35) then (if (ji35) ≤ (x7_2.length : Int) then ((impl_GoodTerm_any.f (x7_2.drop ((ji35) : Int).toNat) t178).bind fun t186 => (if t186 = true then (some false) else ((some (x7_2.take ((ji35) : Int).toNat : List Int)).bind fun y187 => (if y187.length < 17592186044416 then (impl_GoodTerm.l0 k2 a0 a1 (y187 ++ [t179]) l2 (l2.length : Int) (wrap64 (x35_2 + 1))) else (none))))) else (none)) else (none)) = some r := by first | (rw [hji35] at H; exact H) | (simp only [hji35] at H ⊢; exact H)
                        (try rw [hji35] at c26b0)
                        (try rw [hji35] at A16)
                        (try rw [hji35] at A24)
                        have hji35w : (IntKind.i64.wrap ((x7_2.length : Int) - t177)) = ji35 := (i64_w _).trans hji35
                        by_cases c36 : 0 ≤ (ji35)
                        · rw [if_pos c36] at H
                          have c36b0 := eq_true c36
                          have c36b1 : decide (0 ≤ (ji35)) = true := decide_eq_true c36
                          clear c36
                          by_cases c37 : (ji35) ≤ (x7_2.length : Int)
                          · rw [if_pos c37] at H
                            have c37b0 := eq_true c37
                            have c37b1 : decide ((ji35) ≤ (x7_2.length : Int)) = true := decide_eq_true c37
                            clear c37
                            obtain ⟨y182, hy182⟩ : ∃ y_ : List Int, y_ = (x7_2.drop ((ji35) : Int).toNat) := ⟨_, rfl⟩
                            replace H : ((impl_GoodTerm_any.f y182 t178).bind fun t186 => (if t186 = true then (some false) else ((some (x7_2.take ((ji35) : Int).toNat : List Int)).bind fun y187 => (if y187.length < 17592186044416 then (impl_GoodTerm.l0 k2 a0 a1 (y187 ++ [t179]) l2 (l2.length : Int) (wrap64 (x35_2 + 1))) else (none))))) = some r := qY hy182 H
                            have Ny182 := Aside0.mk hy182
                            clear hy182
                            replace H := Option.bind_eq_some_iff.mp H
                            obtain ⟨t186, A380, H⟩ := H
                            replace H : (if t186 = true then (some false) else ((some (x7_2.take ((ji35) : Int).toNat : List Int)).bind fun y187 => (if y187.length < 17592186044416 then (impl_GoodTerm.l0 k2 a0 a1 (y187 ++ [t179]) l2 (l2.length : Int) (wrap64 (x35_2 + 1))) else (none)))) = some r := H
                            have A38 := Aside0.mk A380
                            clear A380
                            by_cases c39 : t186 = true
                            · subst c39
                              have H1 : (some false) = some r := by rw [if_pos rfl] at H; exact H
                              clear H
                              have H := H1
                              clear H1
                              obtain rfl := Option.some.inj H
                              have p175 : 0 ≤ (x35_2 : Int) := qD
                              have q175 : x35_2 < (l2.length : Int) := qD
                              obtain ⟨ad175, e175, hx175_0, hx175_1⟩ := at_T34 HR2.out x35_2 p175 q175
                              cases e175
                              replace hx175_0 := (HB.out.cell (World.block_lt_of_cell? w _ hx175_0)).trans hx175_0
                              replace hx175_1 := (HB.out.cell (World.block_lt_of_cell? w _ hx175_1)).trans hx175_1
                              replace p175 := eq_true p175
                              replace q175 := eq_true q175
                              go_wp2_with (first | ((with_reducible refine gate_dst (N := 9) rfl ?_); (try (refine gate_guard (by rfl) ?_; dsimp only)); refine box_event ?hg (N := 9) ?hd (cs := #[.int .i64 0, .int .u64 0]) (t := 34) ?hr ?_; (case hd => rfl); (case hg => rfl); (case hr => first | (go_simp; done) | (go_simp; rfl)); intro gb176 hg w40 hbox hb; have n0_ := Aside0.mk (Kd.R_below (qR HO_7.out) hb); have n1_ := Aside0.mk (below_step (qB) hb); have n2_ := Aside0.mk (hbox); have n3_ := Aside0.mk ((by rw [hg]; exact (below_size (qB)) : w.heap.size ≤ gb176)); have n4_ := Aside0.mk ((by rw [hg]; exact (below_size (qB)) : w.heap.size ≤ gb176)); clear HO_7; clear HB; have HO_7 := n0_; have HB := n1_; have BK176 := n2_; have GW176 := n3_; have GE176 := n4_; clear n0_ n1_ n2_ n3_ n4_; clear hb hbox hg; have hcz41_0 : w40.cell? ⟨gb176, 0, none⟩ = some (.int .i64 0) := (blk_cell BK176.out 0).trans rfl; have hcz41_1 : w40.cell? ⟨gb176, 1, none⟩ = some (.int .u64 0) := (blk_cell BK176.out 1).trans rfl; have hfz41_0 := blk_frozen BK176.out 0; have hfz41_1 := blk_frozen BK176.out 1) | ((with_reducible refine gate_callee (f := 23) rfl ?_); refine goesL_ (some 42) rfl rfl Tryd.func23 (by kernel_rfl) rfl #[.int .i64 ((rd_T34 l2 x35_2).f0)] rfl qG ?_; (with_reducible refine (impl_operandsOf.calls k2 ((rd_T34 l2 x35_2).f0) t177 t178 t179 _ A16.out).mono ?_); rintro e w' ⟨rfl, ⟨nd, rfl⟩⟩; refine ⟨_, rfl, ?_⟩) | ((with_reducible refine gate_dst (N := 11) rfl ?_); (try (refine gate_guard (by rfl) ?_; dsimp only)); refine box_event ?hg (N := 11) ?hd (cs := #[.int .i64 0]) (t := 3) ?hr ?_; (case hd => rfl); (case hg => rfl); (case hr => first | (go_simp; done) | (go_simp; rfl)); intro gb180 hg w42 hbox hb; have n0_ := Aside0.mk (Kd.R_below (Kd.R_elderB (by (with_reducible repeat (first | apply Kd.R_alloc | apply Kd.R_drewN | apply Kd.R_drew)); exact (Kd.R_mono (Kd.R_far (p := ⟨gb176, 1, none⟩) (Kd.R_far (p := ⟨gb176, 0, none⟩) (Kd.R_types HO_7.out BK176.out (by decide)) (fun _ hk => hk.2) (.int .i64 ((rd_T34 l2 x35_2).f0))) (fun _ hk => hk.2) (.int .u64 ((rd_T34 l2 x35_2).f1))) (fun _ h_ => h_.1))) gb180 (Nat.le_of_eq hg.symm)) hb); have n1_ := Aside0.mk (blk_below (g := gb176) (o := .cells #[.int .i64 ((rd_T34 l2 x35_2).f0), .int .u64 ((rd_T34 l2 x35_2).f1)] 34 (0, 0)) (by (with_reducible repeat (first | refine blk_drewN ?_ _ | refine blk_drew ?_ | refine blk_alloc ?_ _)); refine blk_put (cs := #[.int .i64 ((rd_T34 l2 x35_2).f0), .int .u64 0]) ?_ 1 _ rfl; (with_reducible repeat (first | refine blk_drewN ?_ _ | refine blk_drew ?_ | refine blk_alloc ?_ _)); refine blk_put (cs := #[.int .i64 0, .int .u64 0]) ?_ 0 _ rfl; (with_reducible repeat (first | refine blk_drewN ?_ _ | refine blk_drew ?_ | refine blk_alloc ?_ _)); exact BK176.out) hb); have n2_ := Aside0.mk (below_step (qB) hb); have n3_ := Aside0.mk (hbox); have n4_ := Aside0.mk ((by rw [hg]; exact (below_size (qB)) : w.heap.size ≤ gb180)); have n5_ := Aside0.mk ((by rw [hg]; exact (below_size (qB)) : w.heap.size ≤ gb180)); have n6_ := Aside0.mk ((by rw [hg]; exact Nat.ne_of_lt (blk_lt (g := gb176) (o := .cells #[.int .i64 ((rd_T34 l2 x35_2).f0), .int .u64 ((rd_T34 l2 x35_2).f1)] 34 (0, 0)) (by (with_reducible repeat (first | refine blk_drewN ?_ _ | refine blk_drew ?_ | refine blk_alloc ?_ _)); refine blk_put (cs := #[.int .i64 ((rd_T34 l2 x35_2).f0), .int .u64 0]) ?_ 1 _ rfl; (with_reducible repeat (first | refine blk_drewN ?_ _ | refine blk_drew ?_ | refine blk_alloc ?_ _)); refine blk_put (cs := #[.int .i64 0, .int .u64 0]) ?_ 0 _ rfl; (with_reducible repeat (first | refine blk_drewN ?_ _ | refine blk_drew ?_ | refine blk_alloc ?_ _)); exact BK176.out)) : gb176 ≠ gb180)); have n7_ := Aside0.mk ((by rw [hg]; exact Nat.ne_of_gt (blk_lt (g := gb176) (o := .cells #[.int .i64 ((rd_T34 l2 x35_2).f0), .int .u64 ((rd_T34 l2 x35_2).f1)] 34 (0, 0)) (by (with_reducible repeat (first | refine blk_drewN ?_ _ | refine blk_drew ?_ | refine blk_alloc ?_ _)); refine blk_put (cs := #[.int .i64 ((rd_T34 l2 x35_2).f0), .int .u64 0]) ?_ 1 _ rfl; (with_reducible repeat (first | refine blk_drewN ?_ _ | refine blk_drew ?_ | refine blk_alloc ?_ _)); refine blk_put (cs := #[.int .i64 0, .int .u64 0]) ?_ 0 _ rfl; (with_reducible repeat (first | refine blk_drewN ?_ _ | refine blk_drew ?_ | refine blk_alloc ?_ _)); exact BK176.out)) : gb180 ≠ gb176)); clear HO_7; clear BK176; clear HB; have HO_7 := n0_; have BK176 := n1_; have HB := n2_; have BK180 := n3_; have GW180 := n4_; have GE180 := n5_; have NB176_180 := n6_; have NB180_176 := n7_; clear n0_ n1_ n2_ n3_ n4_ n5_ n6_ n7_; clear hb hbox hg; have hnb43 := NB180_176.out; have hnc43 := NB176_180.out; have hcz44_0 : w42.cell? ⟨gb180, 0, none⟩ = some (.int .i64 0) := (blk_cell BK180.out 0).trans rfl; have hfz44_0 := blk_frozen BK180.out 0; obtain ⟨Ao45, co45, eo45⟩ := Kd.R_slice HO_7.out; subst eo45; have hcz46_0 : w42.cell? ⟨gb176, 0, none⟩ = some (.int .i64 ((rd_T34 l2 x35_2).f0)) := (blk_cell BK176.out 0).trans rfl; have hcz46_1 : w42.cell? ⟨gb176, 1, none⟩ = some (.int .u64 ((rd_T34 l2 x35_2).f1)) := (blk_cell BK176.out 1).trans rfl; have hfz46_0 := blk_frozen BK176.out 0; have hfz46_1 := blk_frozen BK176.out 1) | (go_at_call 24; (with_reducible refine (impl_isLeafRight.calls a0 a1 ((rd_T34 l2 x35_2).f0) ((rd_T34 l2 x35_2).f1) true _ A24.out).mono ?_); rintro e w47 ⟨rfl, hb⟩; have n0_ := Aside0.mk (Kd.R_below (by (with_reducible repeat (first | apply Kd.R_alloc | apply Kd.R_drewN | apply Kd.R_drew)); exact (Kd.R_mono (Kd.R_far (p := ⟨gb180, 0, none⟩) (Kd.R_mono HO_7.out (fun k_ hk => (⟨hk, hk.2⟩ : _ ∧ k_ ≠ gb180))) (fun _ hk => hk.2) (.int .i64 t178)) (fun _ h_ => h_.1))) hb); have n1_ := Aside0.mk (blk_below (g := gb176) (o := .cells #[.int .i64 ((rd_T34 l2 x35_2).f0), .int .u64 ((rd_T34 l2 x35_2).f1)] 34 (0, 0)) (qF BK176.out) hb); have n2_ := Aside0.mk (blk_below (g := gb180) (o := .cells #[.int .i64 t178] 3 (0, 0)) (by (with_reducible repeat (first | refine blk_drewN ?_ _ | refine blk_drew ?_ | refine blk_alloc ?_ _)); refine blk_put (cs := #[.int .i64 0]) ?_ 0 _ rfl; (with_reducible repeat (first | refine blk_drewN ?_ _ | refine blk_drew ?_ | refine blk_alloc ?_ _)); exact BK180.out) hb); have n3_ := Aside0.mk (below_step (qB) hb); clear HO_7; clear BK176; clear BK180; clear HB; have HO_7 := n0_; have BK176 := n1_; have BK180 := n2_; have HB := n3_; clear n0_ n1_ n2_ n3_; (try clear hb); (try clear hb2); (try clear hk); (try clear hi); have q48 : ((ji35) : Int) ≤ ((x7_2.length : Int) : Int) := qD; obtain ⟨i048, hi048, _, hsz48, _⟩ := info_parts info3; have hroom48 : x7_2.length ≤ co45 := (Kd.R_reads' HO_7.out).2.1; have hC48 : Kd.C (Kd.int .i64) _ Ao45 x7_2.length x7_2 := (Kd.R_reads' HO_7.out).2.2; have q048 : (0 : Int) ≤ ((ji35) : Int) := qD; have hcut48 := cut_from (P := Tryd.prog) 46 3 .i64 Tryd.underlying46 hi048 1 hsz48 Ao45 x7_2.length co45 (ji35) q048 q48; have hr48 := Kd.C_drop (m := ((ji35) : Int).toNat) (c := co45) hC48 (by omega) hroom48; obtain ⟨A48, hA48⟩ : ∃ A_, A_ = (if co45 = ((ji35) : Int).toNat then Ao45 else (Ao45 : Option Addr).map (·.add (((ji35) : Int).toNat * 1))) := ⟨_, rfl⟩; obtain ⟨c48, hc48⟩ : ∃ c_, c_ = co45 - ((ji35) : Int).toNat := ⟨_, rfl⟩; have hy48 : y182.length = x7_2.length - ((ji35) : Int).toNat := (by rw [Ny182.out, List.length_drop] <;> omega); rw [show (x7_2).drop ((ji35) : Int).toNat = y182 from Ny182.out.symm] at hr48; replace hr48 : Kd.C (Kd.int .i64) _ A48 y182.length y182 := (by rw [hA48]; exact hr48); rw [← hy48, ← hA48, ← hc48] at hcut48; have HR185 := Aside0.mk hr48; have HC185 := Aside0.mk (show y182.length ≤ c48 from by rw [hy48, hc48]; exact Nat.sub_le_sub_right hroom48 _); clear hr48 hC48 hroom48 hi048 hsz48 hc48; have KY48 := Aside0.mk hy48; have KA48 := Aside0.mk hA48; clear hy48 hA48; have KL48 := Aside0.mk (show ((ji35) : Int).toNat ≤ x7_2.length from by omega); replace q48 := eq_true q48; have hcz49_0 : w47.cell? ⟨gb180, 0, none⟩ = some (.int .i64 t178) := (blk_cell BK180.out 0).trans rfl; have hfz49_0 := blk_frozen BK180.out 0) | (go_at_call 25; (with_reducible refine (impl_GoodTerm_any.calls _ _ y182 _ t178 true _ ?side1 ?side2 ?side3 A38.out).mono ?_); (case side1 => repeat (first | exact (by repeat (first | (with_reducible exact HR185.out) | (with_reducible refine Kd.C_alloc ?_ _) | (with_reducible refine Kd.C_drewN ?_ _) | (with_reducible refine Kd.C_drew ?_) | exact HR185.out)) | (with_reducible refine Kd.C_alloc ?_ _) | (with_reducible refine Kd.C_drewN ?_ _) | (with_reducible refine Kd.C_drew ?_))); (case side2 => exact HC185.out); (case side3 => exact by (with_reducible repeat (first | refine blk_drewN ?_ _ | refine blk_drew ?_ | refine blk_alloc ?_ _)); exact BK180.out); rintro e w' ⟨rfl, ⟨nd, rfl⟩⟩))
                              go_ret
                              exact ⟨by first | rfl | (simp [errW_none, errW_some] <;> rfl) | (simp only [← hji35]; first | rfl | (simp [errW_none, errW_some] <;> rfl)) | (simp [*, errW_none, errW_some] <;> rfl), qB⟩
                            · replace c39 := Bool.eq_false_iff.mpr c39
                              subst c39
                              have H1 : ((some (x7_2.take ((ji35) : Int).toNat : List Int)).bind fun y187 => (if y187.length < 17592186044416 then (impl_GoodTerm.l0 k2 a0 a1 (y187 ++ [t179]) l2 (l2.length : Int) (wrap64 (x35_2 + 1))) else (none))) = some r := by rw [if_neg (show ¬ (false = true) by decide)] at H; exact H
                              clear H
                              have H := H1
                              clear H1
                              have c50b0 := eq_true (qD : (ji35) ≤ (x7_2.length : Int))
                              obtain ⟨y187, hy187⟩ : ∃ y_ : List Int, y_ = (x7_2.take ((ji35) : Int).toNat) := ⟨_, rfl⟩
                              replace H : (if y187.length < 17592186044416 then (impl_GoodTerm.l0 k2 a0 a1 (y187 ++ [t179]) l2 (l2.length : Int) (wrap64 (x35_2 + 1))) else (none)) = some r := qY hy187 H
                              have Ny187 := Aside0.mk hy187
                              clear hy187
                              by_cases c51 : y187.length < 17592186044416
                              · rw [if_pos c51] at H
                                have LMc51 := Aside0.mk c51
                                clear c51
                                obtain ⟨y190, hy190⟩ : ∃ y_ : List Int, y_ = (y187 ++ [t179]) := ⟨_, rfl⟩
                                replace H : (impl_GoodTerm.l0 k2 a0 a1 y190 l2 (l2.length : Int) (wrap64 (x35_2 + 1))) = some r := qY hy190 H
                                have Ny190 := Aside0.mk hy190
                                clear hy190
                                have H' := Aside0.mk H
                                clear H
                                have p175 : 0 ≤ (x35_2 : Int) := qD
                                have q175 : x35_2 < (l2.length : Int) := qD
                                obtain ⟨ad175, e175, hx175_0, hx175_1⟩ := at_T34 HR2.out x35_2 p175 q175
                                cases e175
                                replace hx175_0 := (HB.out.cell (World.block_lt_of_cell? w _ hx175_0)).trans hx175_0
                                replace hx175_1 := (HB.out.cell (World.block_lt_of_cell? w _ hx175_1)).trans hx175_1
                                replace p175 := eq_true p175
                                replace q175 := eq_true q175
                                go_wp2_with (first | ((with_reducible refine gate_dst (N := 9) rfl ?_); (try (refine gate_guard (by rfl) ?_; dsimp only)); refine box_event ?hg (N := 9) ?hd (cs := #[.int .i64 0, .int .u64 0]) (t := 34) ?hr ?_; (case hd => rfl); (case hg => rfl); (case hr => first | (go_simp; done) | (go_simp; rfl)); intro gb176 hg w52 hbox hb; have n0_ := Aside0.mk (Kd.R_below (qR HO_7.out) hb); have n1_ := Aside0.mk (below_step (qB) hb); have n2_ := Aside0.mk (hbox); have n3_ := Aside0.mk ((by rw [hg]; exact (below_size (qB)) : w.heap.size ≤ gb176)); have n4_ := Aside0.mk ((by rw [hg]; exact (below_size (qB)) : w.heap.size ≤ gb176)); clear HO_7; clear HB; have HO_7 := n0_; have HB := n1_; have BK176 := n2_; have GW176 := n3_; have GE176 := n4_; clear n0_ n1_ n2_ n3_ n4_; clear hb hbox hg; have hcz53_0 : w52.cell? ⟨gb176, 0, none⟩ = some (.int .i64 0) := (blk_cell BK176.out 0).trans rfl; have hcz53_1 : w52.cell? ⟨gb176, 1, none⟩ = some (.int .u64 0) := (blk_cell BK176.out 1).trans rfl; have hfz53_0 := blk_frozen BK176.out 0; have hfz53_1 := blk_frozen BK176.out 1) | ((with_reducible refine gate_callee (f := 23) rfl ?_); refine goesL_ (some 42) rfl rfl Tryd.func23 (by kernel_rfl) rfl #[.int .i64 ((rd_T34 l2 x35_2).f0)] rfl qG ?_; (with_reducible refine (impl_operandsOf.calls k2 ((rd_T34 l2 x35_2).f0) t177 t178 t179 _ A16.out).mono ?_); rintro e w' ⟨rfl, ⟨nd, rfl⟩⟩; refine ⟨_, rfl, ?_⟩) | ((with_reducible refine gate_dst (N := 11) rfl ?_); (try (refine gate_guard (by rfl) ?_; dsimp only)); refine box_event ?hg (N := 11) ?hd (cs := #[.int .i64 0]) (t := 3) ?hr ?_; (case hd => rfl); (case hg => rfl); (case hr => first | (go_simp; done) | (go_simp; rfl)); intro gb180 hg w54 hbox hb; have n0_ := Aside0.mk (Kd.R_below (Kd.R_elderB (by (with_reducible repeat (first | apply Kd.R_alloc | apply Kd.R_drewN | apply Kd.R_drew)); exact (Kd.R_mono (Kd.R_far (p := ⟨gb176, 1, none⟩) (Kd.R_far (p := ⟨gb176, 0, none⟩) (Kd.R_types HO_7.out BK176.out (by decide)) (fun _ hk => hk.2) (.int .i64 ((rd_T34 l2 x35_2).f0))) (fun _ hk => hk.2) (.int .u64 ((rd_T34 l2 x35_2).f1))) (fun _ h_ => h_.1))) gb180 (Nat.le_of_eq hg.symm)) hb); have n1_ := Aside0.mk (blk_below (g := gb176) (o := .cells #[.int .i64 ((rd_T34 l2 x35_2).f0), .int .u64 ((rd_T34 l2 x35_2).f1)] 34 (0, 0)) (by (with_reducible repeat (first | refine blk_drewN ?_ _ | refine blk_drew ?_ | refine blk_alloc ?_ _)); refine blk_put (cs := #[.int .i64 ((rd_T34 l2 x35_2).f0), .int .u64 0]) ?_ 1 _ rfl; (with_reducible repeat (first | refine blk_drewN ?_ _ | refine blk_drew ?_ | refine blk_alloc ?_ _)); refine blk_put (cs := #[.int .i64 0, .int .u64 0]) ?_ 0 _ rfl; (with_reducible repeat (first | refine blk_drewN ?_ _ | refine blk_drew ?_ | refine blk_alloc ?_ _)); exact BK176.out) hb); have n2_ := Aside0.mk (below_step (qB) hb); have n3_ := Aside0.mk (hbox); have n4_ := Aside0.mk ((by rw [hg]; exact (below_size (qB)) : w.heap.size ≤ gb180)); have n5_ := Aside0.mk ((by rw [hg]; exact (below_size (qB)) : w.heap.size ≤ gb180)); have n6_ := Aside0.mk ((by rw [hg]; exact Nat.ne_of_lt (blk_lt (g := gb176) (o := .cells #[.int .i64 ((rd_T34 l2 x35_2).f0), .int .u64 ((rd_T34 l2 x35_2).f1)] 34 (0, 0)) (by (with_reducible repeat (first | refine blk_drewN ?_ _ | refine blk_drew ?_ | refine blk_alloc ?_ _)); refine blk_put (cs := #[.int .i64 ((rd_T34 l2 x35_2).f0), .int .u64 0]) ?_ 1 _ rfl; (with_reducible repeat (first | refine blk_drewN ?_ _ | refine blk_drew ?_ | refine blk_alloc ?_ _)); refine blk_put (cs := #[.int .i64 0, .int .u64 0]) ?_ 0 _ rfl; (with_reducible repeat (first | refine blk_drewN ?_ _ | refine blk_drew ?_ | refine blk_alloc ?_ _)); exact BK176.out)) : gb176 ≠ gb180)); have n7_ := Aside0.mk ((by rw [hg]; exact Nat.ne_of_gt (blk_lt (g := gb176) (o := .cells #[.int .i64 ((rd_T34 l2 x35_2).f0), .int .u64 ((rd_T34 l2 x35_2).f1)] 34 (0, 0)) (by (with_reducible repeat (first | refine blk_drewN ?_ _ | refine blk_drew ?_ | refine blk_alloc ?_ _)); refine blk_put (cs := #[.int .i64 ((rd_T34 l2 x35_2).f0), .int .u64 0]) ?_ 1 _ rfl; (with_reducible repeat (first | refine blk_drewN ?_ _ | refine blk_drew ?_ | refine blk_alloc ?_ _)); refine blk_put (cs := #[.int .i64 0, .int .u64 0]) ?_ 0 _ rfl; (with_reducible repeat (first | refine blk_drewN ?_ _ | refine blk_drew ?_ | refine blk_alloc ?_ _)); exact BK176.out)) : gb180 ≠ gb176)); clear HO_7; clear BK176; clear HB; have HO_7 := n0_; have BK176 := n1_; have HB := n2_; have BK180 := n3_; have GW180 := n4_; have GE180 := n5_; have NB176_180 := n6_; have NB180_176 := n7_; clear n0_ n1_ n2_ n3_ n4_ n5_ n6_ n7_; clear hb hbox hg; have hnb55 := NB180_176.out; have hnc55 := NB176_180.out; have hcz56_0 : w54.cell? ⟨gb180, 0, none⟩ = some (.int .i64 0) := (blk_cell BK180.out 0).trans rfl; have hfz56_0 := blk_frozen BK180.out 0; obtain ⟨Ao57, co57, eo57⟩ := Kd.R_slice HO_7.out; subst eo57; have hcz58_0 : w54.cell? ⟨gb176, 0, none⟩ = some (.int .i64 ((rd_T34 l2 x35_2).f0)) := (blk_cell BK176.out 0).trans rfl; have hcz58_1 : w54.cell? ⟨gb176, 1, none⟩ = some (.int .u64 ((rd_T34 l2 x35_2).f1)) := (blk_cell BK176.out 1).trans rfl; have hfz58_0 := blk_frozen BK176.out 0; have hfz58_1 := blk_frozen BK176.out 1) | (go_at_call 24; (with_reducible refine (impl_isLeafRight.calls a0 a1 ((rd_T34 l2 x35_2).f0) ((rd_T34 l2 x35_2).f1) true _ A24.out).mono ?_); rintro e w59 ⟨rfl, hb⟩; have n0_ := Aside0.mk (Kd.R_below (by (with_reducible repeat (first | apply Kd.R_alloc | apply Kd.R_drewN | apply Kd.R_drew)); exact (Kd.R_mono (Kd.R_far (p := ⟨gb180, 0, none⟩) (Kd.R_mono HO_7.out (fun k_ hk => (⟨hk, hk.2⟩ : _ ∧ k_ ≠ gb180))) (fun _ hk => hk.2) (.int .i64 t178)) (fun _ h_ => h_.1))) hb); have n1_ := Aside0.mk (blk_below (g := gb176) (o := .cells #[.int .i64 ((rd_T34 l2 x35_2).f0), .int .u64 ((rd_T34 l2 x35_2).f1)] 34 (0, 0)) (qF BK176.out) hb); have n2_ := Aside0.mk (blk_below (g := gb180) (o := .cells #[.int .i64 t178] 3 (0, 0)) (by (with_reducible repeat (first | refine blk_drewN ?_ _ | refine blk_drew ?_ | refine blk_alloc ?_ _)); refine blk_put (cs := #[.int .i64 0]) ?_ 0 _ rfl; (with_reducible repeat (first | refine blk_drewN ?_ _ | refine blk_drew ?_ | refine blk_alloc ?_ _)); exact BK180.out) hb); have n3_ := Aside0.mk (below_step (qB) hb); clear HO_7; clear BK176; clear BK180; clear HB; have HO_7 := n0_; have BK176 := n1_; have BK180 := n2_; have HB := n3_; clear n0_ n1_ n2_ n3_; (try clear hb); (try clear hb2); (try clear hk); (try clear hi); have q60 : ((ji35) : Int) ≤ ((x7_2.length : Int) : Int) := qD; obtain ⟨i060, hi060, _, hsz60, _⟩ := info_parts info3; have hroom60 : x7_2.length ≤ co57 := (Kd.R_reads' HO_7.out).2.1; have hC60 : Kd.C (Kd.int .i64) _ Ao57 x7_2.length x7_2 := (Kd.R_reads' HO_7.out).2.2; have q060 : (0 : Int) ≤ ((ji35) : Int) := qD; have hcut60 := cut_from (P := Tryd.prog) 46 3 .i64 Tryd.underlying46 hi060 1 hsz60 Ao57 x7_2.length co57 (ji35) q060 q60; have hr60 := Kd.C_drop (m := ((ji35) : Int).toNat) (c := co57) hC60 (by omega) hroom60; obtain ⟨A60, hA60⟩ : ∃ A_, A_ = (if co57 = ((ji35) : Int).toNat then Ao57 else (Ao57 : Option Addr).map (·.add (((ji35) : Int).toNat * 1))) := ⟨_, rfl⟩; obtain ⟨c60, hc60⟩ : ∃ c_, c_ = co57 - ((ji35) : Int).toNat := ⟨_, rfl⟩; have hy60 : y182.length = x7_2.length - ((ji35) : Int).toNat := (by rw [Ny182.out, List.length_drop] <;> omega); rw [show (x7_2).drop ((ji35) : Int).toNat = y182 from Ny182.out.symm] at hr60; replace hr60 : Kd.C (Kd.int .i64) _ A60 y182.length y182 := (by rw [hA60]; exact hr60); rw [← hy60, ← hA60, ← hc60] at hcut60; have HR185 := Aside0.mk hr60; have HC185 := Aside0.mk (show y182.length ≤ c60 from by rw [hy60, hc60]; exact Nat.sub_le_sub_right hroom60 _); clear hr60 hC60 hroom60 hi060 hsz60 hc60; have KY60 := Aside0.mk hy60; have KA60 := Aside0.mk hA60; clear hy60 hA60; have KL60 := Aside0.mk (show ((ji35) : Int).toNat ≤ x7_2.length from by omega); replace q60 := eq_true q60; have hcz61_0 : w59.cell? ⟨gb180, 0, none⟩ = some (.int .i64 t178) := (blk_cell BK180.out 0).trans rfl; have hfz61_0 := blk_frozen BK180.out 0) | (go_at_call 25; (with_reducible refine (impl_GoodTerm_any.calls _ _ y182 _ t178 false _ ?side1 ?side2 ?side3 A38.out).mono ?_); (case side1 => repeat (first | exact (by repeat (first | (with_reducible exact HR185.out) | (with_reducible refine Kd.C_alloc ?_ _) | (with_reducible refine Kd.C_drewN ?_ _) | (with_reducible refine Kd.C_drew ?_) | exact HR185.out)) | (with_reducible refine Kd.C_alloc ?_ _) | (with_reducible refine Kd.C_drewN ?_ _) | (with_reducible refine Kd.C_drew ?_))); (case side2 => exact HC185.out); (case side3 => exact by (with_reducible repeat (first | refine blk_drewN ?_ _ | refine blk_drew ?_ | refine blk_alloc ?_ _)); exact BK180.out); rintro e w' ⟨rfl, ⟨nd, rfl⟩⟩; have q62 : ((ji35) : Int) ≤ ((x7_2.length : Int) : Int) := qD; obtain ⟨i062, hi062, _, hsz62, _⟩ := info_parts info3; have hcut62 := cut_to (P := Tryd.prog) 46 3 .i64 Tryd.underlying46 hi062 Ao57 x7_2.length co57 (ji35) qD q62 (Kd.R_reads' HO_7.out).2.1; have hr62 := Kd.R_take (m := ((ji35) : Int).toNat) HO_7.out (by omega); have hy62 : y187.length = ((ji35) : Int).toNat := (by rw [Ny187.out, List.length_take]; omega); rw [← Ny187.out] at hr62; rw [← hy62] at hr62 hcut62; clear hy62 hi062 hsz62 HO_7; have HO189 := Aside0.mk hr62; clear hr62; replace q62 := eq_true q62) | ((with_reducible refine gate_builtin (b := .append) (xs := #[.tmp 72, .tmp 74]) rfl ?_); (try (refine gate_guard (by rfl) ?_; dsimp only)); at_builtin; refine Kd.R_append (Kd.int .i64) (w0 := w) w.heap.size rfl (.tmp 72) (.tmp 74) 46 3 (.int .i64 0) 8 rfl Tryd.underlying46 info3 rfl (by decide) (by omega) (.slice Ao57 y187.length co57) y187 t179 [.int .i64 t179] (fun k_ => k_ ≠ gb180) (fun _ => False) rfl rfl ?aP (fun _ hk => hk.elim) ?aF ?aO ?aB ?aS ?aL ?_; (case aP => exact rfl); (case aB => exact (qB)); (case aF => exact (fun k_ hk => Kd.freshB (g := gb180) (o := .cells #[.int .i64 t178] 3 (0, 0)) (qK BK180.out) k_ hk)); (case aO => exact (by (with_reducible repeat (first | apply Kd.R_alloc | apply Kd.R_drewN | apply Kd.R_drew)); exact Kd.R_mono HO189.out (fun _ hk => hk.2))); (case aS => exact (below_size (qB))); (case aL => have := LMc51.out; omega); intro v191 w63 ho hb hg hat; rw [← Ny190.out] at ho; have n0_ := Aside0.mk (blk_grown (g := gb176) (o := .cells #[.int .i64 ((rd_T34 l2 x35_2).f0), .int .u64 ((rd_T34 l2 x35_2).f1)] 34 (0, 0)) (qK BK176.out) hg (Kd.R_ne HO189.out BK176.out (by decide))); have n1_ := Aside0.mk (blk_grown (g := gb180) (o := .cells #[.int .i64 t178] 3 (0, 0)) (qK BK180.out) hg (Kd.R_away HO189.out (fun _ hk => hk.2))); have n2_ := Aside0.mk (hb); have n3_ := Aside0.mk (ho); clear BK176; clear BK180; clear HB; clear HO189; have BK176 := n0_; have BK180 := n1_; have HB := n2_; have HO192 := n3_; clear n0_ n1_ n2_ n3_; clear ho hb hg hat))
                                go_roundg k2
                                case measure => have := HJ3.out; have := HK2.out; omega
                                case rel => exact ⟨(y190), (wrap64 (x35_2 + 1)), qS, H', ⟨by have := HJ3.out; have := HK2.out; omega⟩, ⟨by (with_reducible repeat (first | apply Kd.R_alloc | apply Kd.R_drewN | apply Kd.R_drew)); exact Kd.R_mono HO192.out (fun _ hk => trivial)⟩, ⟨qB⟩⟩
                              · rw [if_neg c51] at H
                                exact absurd H (by simp)
                          · rw [if_neg c37] at H
                            exact absurd H (by simp)
                        · rw [if_neg c36] at H
                          exact absurd H (by simp)
                    · replace c25 := Bool.eq_false_iff.mpr c25
                      subst c25
                      have H1 : (some false) = some r := by rw [if_neg (show ¬ (false = true) by decide)] at H; exact H
                      clear H
                      have H := H1
                      clear H1
                      obtain rfl := Option.some.inj H
                      have p175 : 0 ≤ (x35_2 : Int) := qD
                      have q175 : x35_2 < (l2.length : Int) := qD
                      obtain ⟨ad175, e175, hx175_0, hx175_1⟩ := at_T34 HR2.out x35_2 p175 q175
                      cases e175
                      replace hx175_0 := (HB.out.cell (World.block_lt_of_cell? w _ hx175_0)).trans hx175_0
                      replace hx175_1 := (HB.out.cell (World.block_lt_of_cell? w _ hx175_1)).trans hx175_1
                      replace p175 := eq_true p175
                      replace q175 := eq_true q175
                      go_wp2_with (first | ((with_reducible refine gate_dst (N := 9) rfl ?_); (try (refine gate_guard (by rfl) ?_; dsimp only)); refine box_event ?hg (N := 9) ?hd (cs := #[.int .i64 0, .int .u64 0]) (t := 34) ?hr ?_; (case hd => rfl); (case hg => rfl); (case hr => first | (go_simp; done) | (go_simp; rfl)); intro gb176 hg w64 hbox hb; have n0_ := Aside0.mk (Kd.R_below (qR HO_7.out) hb); have n1_ := Aside0.mk (below_step (qB) hb); have n2_ := Aside0.mk (hbox); have n3_ := Aside0.mk ((by rw [hg]; exact (below_size (qB)) : w.heap.size ≤ gb176)); have n4_ := Aside0.mk ((by rw [hg]; exact (below_size (qB)) : w.heap.size ≤ gb176)); clear HO_7; clear HB; have HO_7 := n0_; have HB := n1_; have BK176 := n2_; have GW176 := n3_; have GE176 := n4_; clear n0_ n1_ n2_ n3_ n4_; clear hb hbox hg; have hcz65_0 : w64.cell? ⟨gb176, 0, none⟩ = some (.int .i64 0) := (blk_cell BK176.out 0).trans rfl; have hcz65_1 : w64.cell? ⟨gb176, 1, none⟩ = some (.int .u64 0) := (blk_cell BK176.out 1).trans rfl; have hfz65_0 := blk_frozen BK176.out 0; have hfz65_1 := blk_frozen BK176.out 1) | ((with_reducible refine gate_callee (f := 23) rfl ?_); refine goesL_ (some 42) rfl rfl Tryd.func23 (by kernel_rfl) rfl #[.int .i64 ((rd_T34 l2 x35_2).f0)] rfl qG ?_; (with_reducible refine (impl_operandsOf.calls k2 ((rd_T34 l2 x35_2).f0) t177 t178 t179 _ A16.out).mono ?_); rintro e w' ⟨rfl, ⟨nd, rfl⟩⟩; refine ⟨_, rfl, ?_⟩) | ((with_reducible refine gate_dst (N := 11) rfl ?_); (try (refine gate_guard (by rfl) ?_; dsimp only)); refine box_event ?hg (N := 11) ?hd (cs := #[.int .i64 0]) (t := 3) ?hr ?_; (case hd => rfl); (case hg => rfl); (case hr => first | (go_simp; done) | (go_simp; rfl)); intro gb180 hg w66 hbox hb; have n0_ := Aside0.mk (Kd.R_below (Kd.R_elderB (by (with_reducible repeat (first | apply Kd.R_alloc | apply Kd.R_drewN | apply Kd.R_drew)); exact (Kd.R_mono (Kd.R_far (p := ⟨gb176, 1, none⟩) (Kd.R_far (p := ⟨gb176, 0, none⟩) (Kd.R_types HO_7.out BK176.out (by decide)) (fun _ hk => hk.2) (.int .i64 ((rd_T34 l2 x35_2).f0))) (fun _ hk => hk.2) (.int .u64 ((rd_T34 l2 x35_2).f1))) (fun _ h_ => h_.1))) gb180 (Nat.le_of_eq hg.symm)) hb); have n1_ := Aside0.mk (blk_below (g := gb176) (o := .cells #[.int .i64 ((rd_T34 l2 x35_2).f0), .int .u64 ((rd_T34 l2 x35_2).f1)] 34 (0, 0)) (by (with_reducible repeat (first | refine blk_drewN ?_ _ | refine blk_drew ?_ | refine blk_alloc ?_ _)); refine blk_put (cs := #[.int .i64 ((rd_T34 l2 x35_2).f0), .int .u64 0]) ?_ 1 _ rfl; (with_reducible repeat (first | refine blk_drewN ?_ _ | refine blk_drew ?_ | refine blk_alloc ?_ _)); refine blk_put (cs := #[.int .i64 0, .int .u64 0]) ?_ 0 _ rfl; (with_reducible repeat (first | refine blk_drewN ?_ _ | refine blk_drew ?_ | refine blk_alloc ?_ _)); exact BK176.out) hb); have n2_ := Aside0.mk (below_step (qB) hb); have n3_ := Aside0.mk (hbox); have n4_ := Aside0.mk ((by rw [hg]; exact (below_size (qB)) : w.heap.size ≤ gb180)); have n5_ := Aside0.mk ((by rw [hg]; exact (below_size (qB)) : w.heap.size ≤ gb180)); have n6_ := Aside0.mk ((by rw [hg]; exact Nat.ne_of_lt (blk_lt (g := gb176) (o := .cells #[.int .i64 ((rd_T34 l2 x35_2).f0), .int .u64 ((rd_T34 l2 x35_2).f1)] 34 (0, 0)) (by (with_reducible repeat (first | refine blk_drewN ?_ _ | refine blk_drew ?_ | refine blk_alloc ?_ _)); refine blk_put (cs := #[.int .i64 ((rd_T34 l2 x35_2).f0), .int .u64 0]) ?_ 1 _ rfl; (with_reducible repeat (first | refine blk_drewN ?_ _ | refine blk_drew ?_ | refine blk_alloc ?_ _)); refine blk_put (cs := #[.int .i64 0, .int .u64 0]) ?_ 0 _ rfl; (with_reducible repeat (first | refine blk_drewN ?_ _ | refine blk_drew ?_ | refine blk_alloc ?_ _)); exact BK176.out)) : gb176 ≠ gb180)); have n7_ := Aside0.mk ((by rw [hg]; exact Nat.ne_of_gt (blk_lt (g := gb176) (o := .cells #[.int .i64 ((rd_T34 l2 x35_2).f0), .int .u64 ((rd_T34 l2 x35_2).f1)] 34 (0, 0)) (by (with_reducible repeat (first | refine blk_drewN ?_ _ | refine blk_drew ?_ | refine blk_alloc ?_ _)); refine blk_put (cs := #[.int .i64 ((rd_T34 l2 x35_2).f0), .int .u64 0]) ?_ 1 _ rfl; (with_reducible repeat (first | refine blk_drewN ?_ _ | refine blk_drew ?_ | refine blk_alloc ?_ _)); refine blk_put (cs := #[.int .i64 0, .int .u64 0]) ?_ 0 _ rfl; (with_reducible repeat (first | refine blk_drewN ?_ _ | refine blk_drew ?_ | refine blk_alloc ?_ _)); exact BK176.out)) : gb180 ≠ gb176)); clear HO_7; clear BK176; clear HB; have HO_7 := n0_; have BK176 := n1_; have HB := n2_; have BK180 := n3_; have GW180 := n4_; have GE180 := n5_; have NB176_180 := n6_; have NB180_176 := n7_; clear n0_ n1_ n2_ n3_ n4_ n5_ n6_ n7_; clear hb hbox hg; have hnb67 := NB180_176.out; have hnc67 := NB176_180.out; have hcz68_0 : w66.cell? ⟨gb180, 0, none⟩ = some (.int .i64 0) := (blk_cell BK180.out 0).trans rfl; have hfz68_0 := blk_frozen BK180.out 0; obtain ⟨Ao69, co69, eo69⟩ := Kd.R_slice HO_7.out; subst eo69; have hcz70_0 : w66.cell? ⟨gb176, 0, none⟩ = some (.int .i64 ((rd_T34 l2 x35_2).f0)) := (blk_cell BK176.out 0).trans rfl; have hcz70_1 : w66.cell? ⟨gb176, 1, none⟩ = some (.int .u64 ((rd_T34 l2 x35_2).f1)) := (blk_cell BK176.out 1).trans rfl; have hfz70_0 := blk_frozen BK176.out 0; have hfz70_1 := blk_frozen BK176.out 1) | (go_at_call 24; (with_reducible refine (impl_isLeafRight.calls a0 a1 ((rd_T34 l2 x35_2).f0) ((rd_T34 l2 x35_2).f1) false _ A24.out).mono ?_); rintro e w71 ⟨rfl, hb⟩; have n0_ := Aside0.mk (Kd.R_below (by (with_reducible repeat (first | apply Kd.R_alloc | apply Kd.R_drewN | apply Kd.R_drew)); exact (Kd.R_mono (Kd.R_far (p := ⟨gb180, 0, none⟩) (Kd.R_mono HO_7.out (fun k_ hk => (⟨hk, hk.2⟩ : _ ∧ k_ ≠ gb180))) (fun _ hk => hk.2) (.int .i64 t178)) (fun _ h_ => h_.1))) hb); have n1_ := Aside0.mk (blk_below (g := gb176) (o := .cells #[.int .i64 ((rd_T34 l2 x35_2).f0), .int .u64 ((rd_T34 l2 x35_2).f1)] 34 (0, 0)) (qF BK176.out) hb); have n2_ := Aside0.mk (blk_below (g := gb180) (o := .cells #[.int .i64 t178] 3 (0, 0)) (by (with_reducible repeat (first | refine blk_drewN ?_ _ | refine blk_drew ?_ | refine blk_alloc ?_ _)); refine blk_put (cs := #[.int .i64 0]) ?_ 0 _ rfl; (with_reducible repeat (first | refine blk_drewN ?_ _ | refine blk_drew ?_ | refine blk_alloc ?_ _)); exact BK180.out) hb); have n3_ := Aside0.mk (below_step (qB) hb); clear HO_7; clear BK176; clear BK180; clear HB; have HO_7 := n0_; have BK176 := n1_; have BK180 := n2_; have HB := n3_; clear n0_ n1_ n2_ n3_; (try clear hb); (try clear hb2); (try clear hk); (try clear hi)))
                      go_ret
                      exact ⟨qE, qB⟩
                · rw [if_neg c15] at H
                  exact absurd H (by simp)
              · rw [if_neg c14] at H
                exact absurd H (by simp)
            · rw [if_neg c13] at H
              have c13b0 : decide (x35_2 < (l2.length : Int)) = false := decide_eq_false c13
              clear c13
              obtain rfl := Option.some.inj H
              obtain ⟨Ao72, co72, eo72⟩ := Kd.R_slice HO_7.out
              subst eo72
              go_wp2
              go_ret
              exact ⟨qE, qB⟩

-- NOT PRINTED: function 41 (strconv_small)

-- NOT PRINTED: function 45 (strconv_log10Pow2)

-- NOT PRINTED: function 46 (bits_Len64)

-- NOT PRINTED: function 47 (strconv_bool2_strconv_bool2_int)

-- NOT PRINTED: function 42 (strconv_numDigits)

-- NOT PRINTED: function 43 (strconv_formatBase10)

-- NOT PRINTED: function 48 (strconv_isPowerOfTwo)

-- NOT PRINTED: function 50 (bits_TrailingZeros32)

-- NOT PRINTED: function 51 (bits_TrailingZeros64)

end Go.Proofs.YtckdgmbmjfhodaaDoor.X
