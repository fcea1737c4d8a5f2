/- Each Go function as a Lean function, with the proof that the call comes to just its answer; or a law's row out of its pure statement. Conditions: the arguments are of their kinds. Written by this session's program wip/xp/xp.sh. -/
import Derived.Test.YthageckjjbgonaaX0
import Derived.Test.YthageckjjbgonaaX1
import Derived.Test.YthageckjjbgonaaX3
import Derived.Test.YthageckjjbgonaaX8
import Derived.Test.YthageckjjbgonaaX15
import Derived.Lib.SliceRun
namespace Go.Proofs.Ythageckjjbgonaa.X
open Go.RowKit Go.Proofs.YthageckjjbgonaaW.PrintWords Go.Proofs.YthageckjjbgonaaW.PrintLast Go.Proofs.YthageckjjbgonaaW.PrintMore
attribute [local go_sem] max2_int min2_int max_two min_two max_three min_three max_four min_four   -- for this text's walks alone
set_option linter.unusedVariables false
set_option linter.unusedSimpArgs false

/-! ### spec_TurnTerm: function 19 -/
def spec_TurnTerm.f (k : Nat) (a0 : Int) (a1 : Int) (a2 : Int) (l3 : List (S47)) : Option ((List (S47)) × Bool) := (spec_l2Need.f k a2).bind fun bt226 => (if bt226.1 = 1 then ((spec_l2Kind.f k a0 a1 l3).bind fun t229 => (if t229 = bt226.2.1 then ((some (([] : List (S47)) : List (S47))).bind fun y230 => (if y230.length + l3.length < 8796093022208 then ((some (y230 ++ l3 : List (S47))).bind fun y233 => (if y233.length < 8796093022208 then ((spec_l2Made.f k a0 a1 (y233 ++ [(⟨a2, 0⟩ : S47)])).bind fun bt239 => (some (bt239.1, bt239.2))) else (none))) else (none))) else (some (([] : List (S47)), false)))) else (some (([] : List (S47)), false)))
theorem spec_TurnTerm.mono : ∀ a0 a1 a2 a3 k, LeO (spec_TurnTerm.f k a0 a1 a2 a3) (spec_TurnTerm.f (k + 1) a0 a1 a2 a3) := by
  intro a0 a1 a2 a3 k
  unfold spec_TurnTerm.f
  repeat' first
      | (with_reducible exact spec_l2Kind.mono _ _ _ _)
      | (with_reducible exact spec_l2Made.mono _ _ _ _)
      | (with_reducible exact spec_l2Need.mono _ _)
      | (with_reducible exact LeO.refl _)
      | (with_reducible exact LeO.none _)
      | (with_reducible refine LeO.ite ?_ ?_)
      | (with_reducible refine LeO.bind ?_ (fun _ => ?_))
      | exact spec_l2Kind.mono _ _ _ _
      | exact spec_l2Made.mono _ _ _ _
      | exact spec_l2Need.mono _ _
      | exact LeO.none _
      | refine LeO.ite ?_ ?_
      | refine LeO.bind ?_ (fun _ => ?_)
set_option maxHeartbeats 8000000 in
set_option maxRecDepth 100000 in
theorem spec_TurnTerm.calls (k : Nat) (a0 : Int) (a1 : Int) (a2 : Int) (A3 : Option Addr) (c3 : Nat) (l3 : List (S47)) (r1 : List (S47)) (r2 : Bool) (w : World) (hr3 : Kd.C k47 w A3 l3.length l3) (hc3 : l3.length ≤ c3) (h : spec_TurnTerm.f k a0 a1 a2 l3 = some (r1, r2)) :
    Calls Try.prog 19 #[.int .i64 a0, .int .i64 a1, .int .i64 a2, .slice A3 l3.length c3] w fun e w' => ∃ v0_ : Value, e = .returned (.tuple #[v0_, .bool r2]) ∧ Kd.R k47 47 w' w.heap.size (fun _ => True) v0_ r1 ∧ Below w.heap.size w w' := by
  have hu47 := Try.underlying47
  have HR3 := Aside0.mk hr3
  have HC3 := Aside0.mk hc3
  clear hr3 hc3
  have HB := Aside0.mk (Below.refl w.heap.size w)
  have H : ((spec_l2Need.f k a2).bind fun bt226 => (if bt226.1 = 1 then ((spec_l2Kind.f k a0 a1 l3).bind fun t229 => (if t229 = bt226.2.1 then ((some (([] : List (S47)) : List (S47))).bind fun y230 => (if y230.length + l3.length < 8796093022208 then ((some (y230 ++ l3 : List (S47))).bind fun y233 => (if y233.length < 8796093022208 then ((spec_l2Made.f k a0 a1 (y233 ++ [(⟨a2, 0⟩ : S47)])).bind fun bt239 => (some (bt239.1, bt239.2))) else (none))) else (none))) else (some (([] : List (S47)), false)))) else (some (([] : List (S47)), false)))) = some (r1, r2) := h
  clear h
  replace H := Option.bind_eq_some_iff.mp H
  obtain ⟨⟨t226, t227, t228⟩, A50, H⟩ := H
  replace H : (if t226 = 1 then ((spec_l2Kind.f k a0 a1 l3).bind fun t229 => (if t229 = t227 then ((some (([] : List (S47)) : List (S47))).bind fun y230 => (if y230.length + l3.length < 8796093022208 then ((some (y230 ++ l3 : List (S47))).bind fun y233 => (if y233.length < 8796093022208 then ((spec_l2Made.f k a0 a1 (y233 ++ [(⟨a2, 0⟩ : S47)])).bind fun bt239 => (some (bt239.1, bt239.2))) else (none))) else (none))) else (some (([] : List (S47)), false)))) else (some (([] : List (S47)), false))) = some (r1, r2) := H
  have A5 := Aside0.mk A50
  clear A50
  by_cases c6 : t226 = 1
  · rw [if_pos c6] at H
    have c6b0 : (t226 == 1) = true := beq_iff_eq.mpr c6
    have c6b1 : (t226 != 1) = false := bne_eq_false_iff_eq.mpr c6
    clear c6
    replace H := Option.bind_eq_some_iff.mp H
    obtain ⟨t229, A70, H⟩ := H
    replace H : (if t229 = t227 then ((some (([] : List (S47)) : List (S47))).bind fun y230 => (if y230.length + l3.length < 8796093022208 then ((some (y230 ++ l3 : List (S47))).bind fun y233 => (if y233.length < 8796093022208 then ((spec_l2Made.f k a0 a1 (y233 ++ [(⟨a2, 0⟩ : S47)])).bind fun bt239 => (some (bt239.1, bt239.2))) else (none))) else (none))) else (some (([] : List (S47)), false))) = some (r1, r2) := H
    have A7 := Aside0.mk A70
    clear A70
    by_cases c8 : t229 = t227
    · rw [if_pos c8] at H
      have c8b0 : (t229 == t227) = true := beq_iff_eq.mpr c8
      have c8b1 : (t229 != t227) = false := bne_eq_false_iff_eq.mpr c8
      clear c8
      obtain ⟨y230, hy230⟩ : ∃ y_ : List (S47), y_ = (([] : List (S47))) := ⟨_, rfl⟩
      replace H : (if y230.length + l3.length < 8796093022208 then ((some (y230 ++ l3 : List (S47))).bind fun y233 => (if y233.length < 8796093022208 then ((spec_l2Made.f k a0 a1 (y233 ++ [(⟨a2, 0⟩ : S47)])).bind fun bt239 => (some (bt239.1, bt239.2))) else (none))) else (none)) = some (r1, r2) := qY hy230 H
      have Ny230 := Aside0.mk hy230
      clear hy230
      by_cases c9 : y230.length + l3.length < 8796093022208
      · rw [if_pos c9] at H
        have LMc9 := Aside0.mk c9
        clear c9
        obtain ⟨y233, hy233⟩ : ∃ y_ : List (S47), y_ = (y230 ++ l3) := ⟨_, rfl⟩
        replace H : (if y233.length < 8796093022208 then ((spec_l2Made.f k a0 a1 (y233 ++ [(⟨a2, 0⟩ : S47)])).bind fun bt239 => (some (bt239.1, bt239.2))) else (none)) = some (r1, r2) := qY hy233 H
        have Ny233 := Aside0.mk hy233
        clear hy233
        by_cases c10 : y233.length < 8796093022208
        · rw [if_pos c10] at H
          have LMc10 := Aside0.mk c10
          clear c10
          obtain ⟨y236, hy236⟩ : ∃ y_ : List (S47), y_ = (y233 ++ [(⟨a2, 0⟩ : S47)]) := ⟨_, rfl⟩
          replace H : ((spec_l2Made.f k a0 a1 y236).bind fun bt239 => (some (bt239.1, bt239.2))) = some (r1, r2) := qY hy236 H
          have Ny236 := Aside0.mk hy236
          clear hy236
          replace H := Option.bind_eq_some_iff.mp H
          obtain ⟨⟨t239, t242⟩, A110, H⟩ := H
          replace H : (some (t239, t242)) = some (r1, r2) := H
          have A11 := Aside0.mk A110
          clear A110
          simp only [Option.some.injEq, Prod.mk.injEq] at H
          obtain ⟨rfl, rfl⟩ := H
          go_enter Try.func19, Try.ntmps19
          go_wp2_with (first | ((with_reducible refine gate_callee (f := 43) rfl ?_); refine goesL_ (some 15) rfl rfl Try.func43 (by kernel_rfl) rfl #[.int .i64 a2] rfl qG ?_; (with_reducible refine (spec_l2Need.calls k a2 t226 t227 t228 _ A5.out).mono ?_); rintro e w' ⟨rfl, ⟨nd, rfl⟩⟩; refine ⟨_, rfl, ?_⟩) | (go_at_call 32; (with_reducible refine (spec_l2Kind.calls k a0 a1 _ _ l3 t229 _ ?side1 ?side2 A7.out).mono ?_); (case side1 => exact qC HR3.out); (case side2 => exact HC3.out); rintro e w12 ⟨rfl, hb⟩; have n0_ := Aside0.mk (below_step (qB) hb); clear HB; have HB := n0_; clear n0_; (try clear hb); (try clear hb2); (try clear hk); (try clear hi)) | ((with_reducible refine gate_dst (N := 31) rfl ?_); refine Kd.R_lit k47 _ 47 ?hg (N := 31) ?hd (xs := ([] : List (S47))) (inner := []) (ok := fun _ => True) (okp := fun _ => True) ?hr ?hp (fun _ hk => hk) trivial (Below.refl _ _) (Nat.le_refl _) (by simp) ?_; (case hd => rfl); (case hg => rfl); (case hr => first | (go_simp; done) | (go_simp; rfl)); (case hp => exact (Reps.none _ _)); intro v231 w13 ho14 hb hg_ hnew_; clear hg_ hnew_; (first | rw [← Ny230.out] at ho14 | (simp only [Int.reduceToNat] at ho14; rw [← Ny230.out] at ho14)); have n0_ := Aside0.mk (Kd.R_lower ho14 (below_size (qB))); have n1_ := Aside0.mk (below_step (qB) hb); clear HB; have HO232 := n0_; have HB := n1_; clear n0_ n1_; clear hb ho14) | ((with_reducible refine gate_builtin (b := .append) (xs := #[.tmp 31, .tmp 32]) rfl ?_); at_builtin; refine Kd.R_append_rows k47 (w0 := w) w.heap.size rfl (.tmp 31) (.tmp 32) 25 47 (.agg #[(.int .i64 0), (.int .u64 0)]) 16 rfl Try.underlying25 info47 rfl (by decide) (by omega) v231 y230 l3 _ _ _ (fun _ => True) (fun _ => False) rfl rfl ?aO ?aR (fun _ _ h => h) (fun _ h => h.elim) ?aF ?aB ?aS ?aL ?_; (case aR => exact qC (Kd.C_below HR3.out HB.out)); (case aB => exact (qB)); (case aF => exact (fun _ _ => trivial)); (case aO => exact (qR HO232.out)); (case aS => exact (below_size (qB))); (case aL => have := LMc9.out; omega); intro v234 w15 ho hb hg hat; rw [← Ny233.out] at ho; have n0_ := Aside0.mk (hb); have n1_ := Aside0.mk (ho); clear HB; clear HO232; have HB := n0_; have HO235 := n1_; clear n0_ n1_; clear ho hb hg hat) | ((with_reducible refine gate_builtin (b := .append) (xs := #[.tmp 33, .tmp 36]) rfl ?_); at_builtin; refine Kd.R_append k47 (w0 := w) w.heap.size rfl (.tmp 33) (.tmp 36) 25 47 (.agg #[(.int .i64 0), (.int .u64 0)]) 16 rfl Try.underlying25 info47 rfl (by decide) (by omega) v234 y233 (⟨a2, 0⟩ : S47) [.int .i64 a2, .int .u64 0] (fun _ => True) (fun _ => False) rfl rfl ?aP (fun _ hk => hk.elim) ?aF ?aO ?aB ?aS ?aL ?_; (case aP => exact k47_mkM _ _ _ (⟨a2, 0⟩ : S47)); (case aB => exact (qB)); (case aF => exact (fun _ _ => trivial)); (case aO => exact (qR HO235.out)); (case aS => exact (below_size (qB))); (case aL => have := LMc10.out; omega); intro v237 w16 ho hb hg hat; rw [← Ny236.out] at ho; have n0_ := Aside0.mk (hb); have n1_ := Aside0.mk (ho); clear HB; clear HO235; have HB := n0_; have HO238 := n1_; clear n0_ n1_; clear ho hb hg hat; obtain ⟨Ao17, co17, eo17⟩ := Kd.R_slice HO238.out; subst eo17) | ((with_reducible refine gate_callee (f := 44) rfl ?_); refine goesL_ (some 38) rfl rfl Try.func44 (by kernel_rfl) rfl #[.int .i64 a0, .int .i64 a1, .slice Ao17 y236.length co17] rfl qG ?_; (with_reducible refine (spec_l2Made.calls k a0 a1 (fun k_ => some k_ = (.slice Ao17 y236.length co17 : Value).ownBlock) (.slice Ao17 y236.length co17) y236 t239 t242 w _ ?side1 ?side2 A11.out).mono ?_); (case side1 => repeat (first | (with_reducible first | exact HB.out | apply below_alloc | apply pw_below_drewN | apply below_drew1) | exact HB.out)); (case side2 => exact Kd.R_tight rfl HO238.out); rintro e w18 ⟨v240, rfl, ho0, hb, hkp⟩; refine ⟨_, rfl, ?_⟩; have n0_ := Aside0.mk (Kd.R_mono (ok' := fun k_ => True) ho0 (fun k_ hk_ => trivial)); have n1_ := Aside0.mk (hb); clear HB; clear HO238; have HO241 := n0_; have HB := n1_; clear n0_ n1_; (try clear hb); (try clear hkp); (try clear ho0)))
          go_ret2
          exact ⟨_, qE, qR HO241.out, qB⟩
        · rw [if_neg c10] at H
          exact absurd H (by simp)
      · rw [if_neg c9] at H
        exact absurd H (by simp)
    · rw [if_neg c8] at H
      have c8b0 : (t229 == t227) = false := beq_eq_false_iff_ne.mpr c8
      have c8b1 : (t229 != t227) = true := bne_iff_ne.mpr c8
      simp only [Option.some.injEq, Prod.mk.injEq] at H
      obtain ⟨rfl, rfl⟩ := H
      go_enter Try.func19, Try.ntmps19
      go_wp2_with (first | ((with_reducible refine gate_callee (f := 43) rfl ?_); refine goesL_ (some 15) rfl rfl Try.func43 (by kernel_rfl) rfl #[.int .i64 a2] rfl qG ?_; (with_reducible refine (spec_l2Need.calls k a2 t226 t227 t228 _ A5.out).mono ?_); rintro e w' ⟨rfl, ⟨nd, rfl⟩⟩; refine ⟨_, rfl, ?_⟩) | (go_at_call 32; (with_reducible refine (spec_l2Kind.calls k a0 a1 _ _ l3 t229 _ ?side1 ?side2 A7.out).mono ?_); (case side1 => exact qC HR3.out); (case side2 => exact HC3.out); rintro e w19 ⟨rfl, hb⟩; have n0_ := Aside0.mk (below_step (qB) hb); clear HB; have HB := n0_; clear n0_; (try clear hb); (try clear hb2); (try clear hk); (try clear hi)))
      go_ret2
      exact ⟨_, qE, by first | exact Kd.R_nil _ _ _ _ _ | exact Kd.N_nil _ _ _ _ _ | exact Kd.V_nil _ _ _ _ _ | exact Kd.Q_nil _ _ _ _ _ | exact Kd.S_nil _ _ _ _ _, qB⟩
  · rw [if_neg c6] at H
    have c6b0 : (t226 == 1) = false := beq_eq_false_iff_ne.mpr c6
    have c6b1 : (t226 != 1) = true := bne_iff_ne.mpr c6
    simp only [Option.some.injEq, Prod.mk.injEq] at H
    obtain ⟨rfl, rfl⟩ := H
    go_enter Try.func19, Try.ntmps19
    go_wp2_with (first | ((with_reducible refine gate_callee (f := 43) rfl ?_); refine goesL_ (some 15) rfl rfl Try.func43 (by kernel_rfl) rfl #[.int .i64 a2] rfl qG ?_; (with_reducible refine (spec_l2Need.calls k a2 t226 t227 t228 _ A5.out).mono ?_); rintro e w' ⟨rfl, ⟨nd, rfl⟩⟩; refine ⟨_, rfl, ?_⟩))
    go_ret2
    exact ⟨_, qE, by first | exact Kd.R_nil _ _ _ _ _ | exact Kd.N_nil _ _ _ _ _ | exact Kd.V_nil _ _ _ _ _ | exact Kd.Q_nil _ _ _ _ _ | exact Kd.S_nil _ _ _ _ _, qB⟩

/-! ### impl_checkedTerm: function 45 -/
def impl_checkedTerm.f (k : Nat) (a0 : Int) (a1 : Int) (l2 : List (S47)) : Option ((List (S47)) × Bool) := (impl_GoodTerm.f k a0 a1 l2).bind fun t243 => (if t243 = true then (some (l2, true)) else (some (([] : List (S47)), false)))
theorem impl_checkedTerm.mono : ∀ a0 a1 a2 k, LeO (impl_checkedTerm.f k a0 a1 a2) (impl_checkedTerm.f (k + 1) a0 a1 a2) := by
  intro a0 a1 a2 k
  unfold impl_checkedTerm.f
  repeat' first
      | (with_reducible exact impl_GoodTerm.mono _ _ _ _)
      | (with_reducible exact LeO.refl _)
      | (with_reducible exact LeO.none _)
      | (with_reducible refine LeO.ite ?_ ?_)
      | (with_reducible refine LeO.bind ?_ (fun _ => ?_))
      | exact impl_GoodTerm.mono _ _ _ _
      | exact LeO.none _
      | refine LeO.ite ?_ ?_
      | refine LeO.bind ?_ (fun _ => ?_)
set_option maxHeartbeats 8000000 in
set_option maxRecDepth 100000 in
theorem impl_checkedTerm.calls (k : Nat) (a0 : Int) (a1 : Int) (P2_ : Nat → Prop) (u9000_ : Value) (l2 : List (S47)) (r1 : List (S47)) (r2 : Bool) (w0 w : World) (hB : Below w0.heap.size w0 w) (ho2 : Kd.R k47 47 w w0.heap.size P2_ u9000_ l2) (h : impl_checkedTerm.f k a0 a1 l2 = some (r1, r2)) :
    Calls Try.prog 45 #[.int .i64 a0, .int .i64 a1, u9000_] w fun e w' => ∃ v0_ : Value, e = .returned (.tuple #[v0_, .bool r2]) ∧ Kd.R k47 47 w' w0.heap.size (fun k_ => (P2_ k_ ∨ w.heap.size ≤ k_)) v0_ r1 ∧ Below w0.heap.size w0 w' ∧ Kept w w' (fun k_ => P2_ k_) := by
  have HO2 := Aside0.mk (show Kd.R k47 47 w w0.heap.size (fun k_ => (P2_ k_ ∨ w.heap.size ≤ k_)) u9000_ l2 from Kd.R_mono ho2 (fun k_ hk => (.inl hk)))
  have HK := Aside0.mk (Kept.refl w (fun k_ => P2_ k_))
  have HW0 := Aside0.mk hB.size
  have HB := Aside0.mk hB
  clear hB
  have H : ((impl_GoodTerm.f k a0 a1 l2).bind fun t243 => (if t243 = true then (some (l2, true)) else (some (([] : List (S47)), false)))) = some (r1, r2) := h
  clear h
  replace H := Option.bind_eq_some_iff.mp H
  obtain ⟨t243, A40, H⟩ := H
  replace H : (if t243 = true then (some (l2, true)) else (some (([] : List (S47)), false))) = some (r1, r2) := H
  have A4 := Aside0.mk A40
  clear A40
  by_cases c5 : t243 = true
  · subst c5
    have H1 : (some (l2, true)) = some (r1, r2) := by rw [if_pos rfl] at H; exact H
    clear H
    have H := H1
    clear H1
    simp only [Option.some.injEq, Prod.mk.injEq] at H
    obtain ⟨rfl, rfl⟩ := H
    obtain ⟨Ao6, co6, eo6⟩ := Kd.R_slice HO2.out
    subst eo6
    go_enter Try.func45, Try.ntmps45
    go_wp2_with (first | ((with_reducible refine gate_callee (f := 13) rfl ?_); refine goesL_ (some 11) rfl rfl Try.func13 (by kernel_rfl) rfl #[.int .i64 a0, .int .i64 a1, .slice Ao6 l2.length co6] rfl qG ?_; (with_reducible refine (impl_GoodTerm.calls k a0 a1 _ _ l2 true _ ?side1 ?side2 A4.out).mono ?_); (case side1 => repeat (first | exact (Kd.R_reads' HO2.out).2.2 | (with_reducible refine Kd.C_alloc ?_ _) | (with_reducible refine Kd.C_drewN ?_ _) | (with_reducible refine Kd.C_drew ?_))); (case side2 => exact (Kd.R_reads' HO2.out).2.1); rintro e w7 ⟨rfl, hb⟩; refine ⟨_, rfl, ?_⟩; have n0_ := Aside0.mk (Kd.R_below (qR HO2.out) hb); have n1_ := Aside0.mk (Kept.below (S := (fun k_ => P2_ k_)) (qH) hb); have n2_ := Aside0.mk (below_step (qB) hb); clear HO2; clear HK; clear HB; have HO2 := n0_; have HK := n1_; have HB := n2_; clear n0_ n1_ n2_; (try clear hb); (try clear hb2); (try clear hk); (try clear hi)))
    go_ret2
    exact ⟨_, qE, qR HO2.out, qB, qH⟩
  · replace c5 := Bool.eq_false_iff.mpr c5
    subst c5
    have H1 : (some (([] : List (S47)), false)) = some (r1, r2) := by rw [if_neg (show ¬ (false = true) by decide)] at H; exact H
    clear H
    have H := H1
    clear H1
    simp only [Option.some.injEq, Prod.mk.injEq] at H
    obtain ⟨rfl, rfl⟩ := H
    obtain ⟨Ao8, co8, eo8⟩ := Kd.R_slice HO2.out
    subst eo8
    go_enter Try.func45, Try.ntmps45
    go_wp2_with (first | ((with_reducible refine gate_callee (f := 13) rfl ?_); refine goesL_ (some 11) rfl rfl Try.func13 (by kernel_rfl) rfl #[.int .i64 a0, .int .i64 a1, .slice Ao8 l2.length co8] rfl qG ?_; (with_reducible refine (impl_GoodTerm.calls k a0 a1 _ _ l2 false _ ?side1 ?side2 A4.out).mono ?_); (case side1 => repeat (first | exact (Kd.R_reads' HO2.out).2.2 | (with_reducible refine Kd.C_alloc ?_ _) | (with_reducible refine Kd.C_drewN ?_ _) | (with_reducible refine Kd.C_drew ?_))); (case side2 => exact (Kd.R_reads' HO2.out).2.1); rintro e w9 ⟨rfl, hb⟩; refine ⟨_, rfl, ?_⟩; have n0_ := Aside0.mk (Kd.R_below (qR HO2.out) hb); have n1_ := Aside0.mk (Kept.below (S := (fun k_ => P2_ k_)) (qH) hb); have n2_ := Aside0.mk (below_step (qB) hb); clear HO2; clear HK; clear HB; have HO2 := n0_; have HK := n1_; have HB := n2_; clear n0_ n1_ n2_; (try clear hb); (try clear hb2); (try clear hk); (try clear hi)))
    go_ret2
    exact ⟨_, qE, by first | exact Kd.R_nil _ _ _ _ _ | exact Kd.N_nil _ _ _ _ _ | exact Kd.V_nil _ _ _ _ _ | exact Kd.Q_nil _ _ _ _ _ | exact Kd.S_nil _ _ _ _ _, qB, qH⟩

-- IMPORT Derived.Lib.SliceRun
/-! ### slices_Clone_impl_Node: function 46 -/
def slices_Clone_impl_Node.f (l0 : List (S47)) : Option ((List (S47))) := (some (([] : List (S47)) : List (S47))).bind fun y244 => (if y244.length + l0.length < 8796093022208 then (some (y244 ++ l0)) else (none))
set_option maxHeartbeats 8000000 in
set_option maxRecDepth 100000 in
theorem slices_Clone_impl_Node.calls (A0 : Option Addr) (c0 : Nat) (l0 : List (S47)) (r : List (S47)) (w : World) (hr0 : Kd.C k47 w A0 l0.length l0) (hc0 : l0.length ≤ c0) (h : slices_Clone_impl_Node.f l0 = some r) :
    Calls Try.prog 46 #[.slice A0 l0.length c0] w fun e w' => ∃ v0_ : Value, e = .returned (v0_) ∧ Kd.R k47 47 w' w.heap.size (fun _ => True) v0_ r ∧ Below w.heap.size w w' := by
  have HR0 := Aside0.mk hr0
  have HC0 := Aside0.mk hc0
  clear hr0 hc0
  have HB := Aside0.mk (Below.refl w.heap.size w)
  have H : ((some (([] : List (S47)) : List (S47))).bind fun y244 => (if y244.length + l0.length < 8796093022208 then (some (y244 ++ l0)) else (none))) = some r := h
  clear h
  rcases A0 with _ | ad_
  · have hl0 : l0 = [] := by
      rcases l0 with _ | ⟨x, s⟩
      · rfl
      · obtain ⟨ad, e_, _⟩ := HR0.out.2.2 (by simp)
        cases e_
    obtain rfl : r = [] := by
      subst hl0
      simpa using H.symm
    subst hl0
    have heq_ := fun w : World => Go.Lib.run_eql_slice_nil (P := Try.prog) w 25 47 none 0 c0 0 0 Try.underlying25
    simp only [Option.isNone_none] at heq_
    clear H
    go_enter Try.func46, Try.ntmps46
    go_wp2
    go_ret
    exact ⟨.slice none 0 0, rfl, Kd.R_nil _ _ _ _ _, HB.out⟩
  · skip
    have heq_ := fun w : World => Go.Lib.run_eql_slice_nil (P := Try.prog) w 25 47 (some ad_) l0.length c0 0 0 Try.underlying25
    simp only [Option.isNone_some] at heq_
    obtain ⟨y244, hy244⟩ : ∃ y_ : List (S47), y_ = (([] : List (S47))) := ⟨_, rfl⟩
    replace H : (if y244.length + l0.length < 8796093022208 then (some (y244 ++ l0)) else (none)) = some r := qY hy244 H
    have Ny244 := Aside0.mk hy244
    clear hy244
    by_cases c2 : y244.length + l0.length < 8796093022208
    · rw [if_pos c2] at H
      have LMc2 := Aside0.mk c2
      clear c2
      obtain ⟨y247, hy247⟩ : ∃ y_ : List (S47), y_ = (y244 ++ l0) := ⟨_, rfl⟩
      replace H : (some y247) = some r := qY hy247 H
      have Ny247 := Aside0.mk hy247
      clear hy247
      obtain rfl := Option.some.inj H
      go_enter Try.func46, Try.ntmps46
      go_wp2_with (first | ((with_reducible refine gate_dst (N := 5) rfl ?_); refine Kd.R_lit k47 _ 47 ?hg (N := 5) ?hd (xs := ([] : List (S47))) (inner := []) (ok := fun _ => True) (okp := fun _ => True) ?hr ?hp (fun _ hk => hk) trivial (Below.refl _ _) (Nat.le_refl _) (by simp) ?_; (case hd => rfl); (case hg => rfl); (case hr => first | (go_simp; done) | (go_simp; rfl)); (case hp => exact (Reps.none _ _)); intro v245 w3 ho4 hb hg_ hnew_; clear hg_ hnew_; (first | rw [← Ny244.out] at ho4 | (simp only [Int.reduceToNat] at ho4; rw [← Ny244.out] at ho4)); have n0_ := Aside0.mk (Kd.R_lower ho4 (below_size (qB))); have n1_ := Aside0.mk (below_step (qB) hb); clear HB; have HO246 := n0_; have HB := n1_; clear n0_ n1_; clear hb ho4) | ((with_reducible refine gate_builtin (b := .append) (xs := #[.tmp 5, .tmp 6]) rfl ?_); at_builtin; refine Kd.R_append_rows k47 (w0 := w) w.heap.size rfl (.tmp 5) (.tmp 6) 25 47 (.agg #[(.int .i64 0), (.int .u64 0)]) 16 rfl Try.underlying25 info47 rfl (by decide) (by omega) v245 y244 l0 _ _ _ (fun _ => True) (fun _ => False) rfl rfl ?aO ?aR (fun _ _ h => h) (fun _ h => h.elim) ?aF ?aB ?aS ?aL ?_; (case aR => exact qC (Kd.C_below HR0.out HB.out)); (case aB => exact (qB)); (case aF => exact (fun _ _ => trivial)); (case aO => exact (qR HO246.out)); (case aS => exact (below_size (qB))); (case aL => have := LMc2.out; omega); intro v248 w5 ho hb hg hat; rw [← Ny247.out] at ho; have n0_ := Aside0.mk (hb); have n1_ := Aside0.mk (ho); clear HB; clear HO246; have HB := n0_; have HO249 := n1_; clear n0_ n1_; clear ho hb hg hat))
      go_ret
      exact ⟨_, qE, qR HO249.out, qB⟩
    · rw [if_neg c2] at H
      exact absurd H (by simp)

/-! ### impl_TurnTerm: function 20 -/
def impl_TurnTerm.j0 : Nat → Int → Int → Int → List (S47) → Bool → Option ((List (S47)) × Bool)
  | 0, _, _, _, _, _ => none
  | k + 1, x0, x1, x2, x3, x22 => if x22 = true then (some (([] : List (S47)), false)) else ((slices_Clone_impl_Node.f x3).bind fun t252 => (if t252.length < 8796093022208 then ((impl_checkedTerm.f k x0 x1 (t252 ++ [(⟨x2, 0⟩ : S47)])).bind fun bt258 => (some (bt258.1, bt258.2))) else (none)))
def impl_TurnTerm.f (k : Nat) (a0 : Int) (a1 : Int) (a2 : Int) (l3 : List (S47)) : Option ((List (S47)) × Bool) := if a2 = 13 then ((impl_GoodTerm.f k a0 a1 l3).bind fun t250 => (impl_TurnTerm.j0 k a0 a1 a2 l3 (!t250))) else (if a2 = 19 then ((impl_GoodTerm.f k a0 a1 l3).bind fun t251 => (impl_TurnTerm.j0 k a0 a1 a2 l3 (!t251))) else (impl_TurnTerm.j0 k a0 a1 a2 l3 true))
theorem impl_TurnTerm.mono_l : ∀ k, (∀ y0 y1 y2 y3 y4, LeO (impl_TurnTerm.j0 k y0 y1 y2 y3 y4) (impl_TurnTerm.j0 (k + 1) y0 y1 y2 y3 y4))
  | 0 => fun _ _ _ _ _ r h => by simp [impl_TurnTerm.j0] at h
  | k + 1 => by
    have ih0 := impl_TurnTerm.mono_l k
    · intro y0 y1 y2 y3 y4
      unfold impl_TurnTerm.j0
      repeat' first
      | (with_reducible exact ih0 _ _ _ _ _)
      | (with_reducible exact impl_GoodTerm.mono _ _ _ _)
      | (with_reducible exact impl_checkedTerm.mono _ _ _ _)
      | (with_reducible exact LeO.refl _)
      | (with_reducible exact LeO.none _)
      | (with_reducible refine LeO.ite ?_ ?_)
      | (with_reducible refine LeO.bind ?_ (fun _ => ?_))
      | exact ih0 _ _ _ _ _
      | exact impl_GoodTerm.mono _ _ _ _
      | exact impl_checkedTerm.mono _ _ _ _
      | exact LeO.none _
      | refine LeO.ite ?_ ?_
      | refine LeO.bind ?_ (fun _ => ?_)
theorem impl_TurnTerm.mono : ∀ a0 a1 a2 a3 k, LeO (impl_TurnTerm.f k a0 a1 a2 a3) (impl_TurnTerm.f (k + 1) a0 a1 a2 a3) := by
  intro a0 a1 a2 a3 k
  have ih0 := impl_TurnTerm.mono_l k
  unfold impl_TurnTerm.f
  repeat' first
      | (with_reducible exact ih0 _ _ _ _ _)
      | (with_reducible exact impl_GoodTerm.mono _ _ _ _)
      | (with_reducible exact impl_checkedTerm.mono _ _ _ _)
      | (with_reducible exact LeO.refl _)
      | (with_reducible exact LeO.none _)
      | (with_reducible refine LeO.ite ?_ ?_)
      | (with_reducible refine LeO.bind ?_ (fun _ => ?_))
      | exact ih0 _ _ _ _ _
      | exact impl_GoodTerm.mono _ _ _ _
      | exact impl_checkedTerm.mono _ _ _ _
      | exact LeO.none _
      | refine LeO.ite ?_ ?_
      | refine LeO.bind ?_ (fun _ => ?_)
set_option maxHeartbeats 8000000 in
set_option maxRecDepth 100000 in
theorem impl_TurnTerm.calls (k : Nat) (a0 : Int) (a1 : Int) (a2 : Int) (A3 : Option Addr) (c3 : Nat) (l3 : List (S47)) (r1 : List (S47)) (r2 : Bool) (w : World) (hr3 : Kd.C k47 w A3 l3.length l3) (hc3 : l3.length ≤ c3) (h : impl_TurnTerm.f k a0 a1 a2 l3 = some (r1, r2)) :
    Calls Try.prog 20 #[.int .i64 a0, .int .i64 a1, .int .i64 a2, .slice A3 l3.length c3] w fun e w' => ∃ v0_ : Value, e = .returned (.tuple #[v0_, .bool r2]) ∧ Kd.R k47 47 w' w.heap.size (fun _ => True) v0_ r1 ∧ Below w.heap.size w w' := by
  have hu47 := Try.underlying47
  have HR3 := Aside0.mk hr3
  have HC3 := Aside0.mk hc3
  clear hr3 hc3
  have HB := Aside0.mk (Below.refl w.heap.size w)
  have H : (if a2 = 13 then ((impl_GoodTerm.f k a0 a1 l3).bind fun t250 => (impl_TurnTerm.j0 k a0 a1 a2 l3 (!t250))) else (if a2 = 19 then ((impl_GoodTerm.f k a0 a1 l3).bind fun t251 => (impl_TurnTerm.j0 k a0 a1 a2 l3 (!t251))) else (impl_TurnTerm.j0 k a0 a1 a2 l3 true))) = some (r1, r2) := h
  clear h
  have HC5 := Aside0.mk H
  clear H
  go_enter Try.func20, Try.ntmps20
  go_upto_region 1 with (fail)
  go_cut [22] (fun v22 wc => ∃ (kq : Nat) (x22_4 : Bool), v22 = .bool x22_4 ∧ Aside0 (impl_TurnTerm.j0 kq a0 a1 a2 l3 x22_4 = some (r1, r2)) ∧ Aside0 (kq ≤ k) ∧ Aside0 (Below w.heap.size w wc))
  case first =>
    have H := HC5.out
    clear HC5
    by_cases c6 : a2 = 13
    · rw [if_pos c6] at H
      have c6b0 : (a2 == 13) = true := beq_iff_eq.mpr c6
      have c6b1 : (a2 != 13) = false := bne_eq_false_iff_eq.mpr c6
      clear c6
      (first | rw [c6b0] | (simp only [i64_w, i32_w]; rw [c6b0]) | skip)
      replace H := Option.bind_eq_some_iff.mp H
      obtain ⟨t250, A70, H⟩ := H
      replace H : (impl_TurnTerm.j0 k a0 a1 a2 l3 (!t250)) = some (r1, r2) := H
      have A7 := Aside0.mk A70
      clear A70
      have H' := Aside0.mk H
      clear H
      go_wp2_with (first | (go_at_call 13; (with_reducible refine (impl_GoodTerm.calls k a0 a1 _ _ l3 t250 _ ?side1 ?side2 A7.out).mono ?_); (case side1 => exact qC (Kd.C_below HR3.out HB.out)); (case side2 => exact HC3.out); rintro e w8 ⟨rfl, hb⟩; have n0_ := Aside0.mk (below_step (qB) hb); clear HB; have HB := n0_; clear n0_; (try clear hb); (try clear hb2); (try clear hk); (try clear hi)))
      go_meet
      case rel => exact ⟨_, (!t250), qS, H', ⟨by first | omega | exact Nat.le_refl _⟩, ⟨qB⟩⟩
    · rw [if_neg c6] at H
      have c6b0 : (a2 == 13) = false := beq_eq_false_iff_ne.mpr c6
      have c6b1 : (a2 != 13) = true := bne_iff_ne.mpr c6
      (first | rw [c6b0] | (simp only [i64_w, i32_w]; rw [c6b0]) | skip)
      by_cases c9 : a2 = 19
      · rw [if_pos c9] at H
        have c9b0 : (a2 == 19) = true := beq_iff_eq.mpr c9
        have c9b1 : (a2 != 19) = false := bne_eq_false_iff_eq.mpr c9
        clear c9
        replace H := Option.bind_eq_some_iff.mp H
        obtain ⟨t251, A100, H⟩ := H
        replace H : (impl_TurnTerm.j0 k a0 a1 a2 l3 (!t251)) = some (r1, r2) := H
        have A10 := Aside0.mk A100
        clear A100
        have H' := Aside0.mk H
        clear H
        go_wp2_with (first | (go_at_call 13; (with_reducible refine (impl_GoodTerm.calls k a0 a1 _ _ l3 t251 _ ?side1 ?side2 A10.out).mono ?_); (case side1 => exact qC (Kd.C_below HR3.out HB.out)); (case side2 => exact HC3.out); rintro e w11 ⟨rfl, hb⟩; have n0_ := Aside0.mk (below_step (qB) hb); clear HB; have HB := n0_; clear n0_; (try clear hb); (try clear hb2); (try clear hk); (try clear hi)))
        go_meet
        case rel => exact ⟨_, (!t251), qS, H', ⟨by first | omega | exact Nat.le_refl _⟩, ⟨qB⟩⟩
      · rw [if_neg c9] at H
        have c9b0 : (a2 == 19) = false := beq_eq_false_iff_ne.mpr c9
        have c9b1 : (a2 != 19) = true := bne_iff_ne.mpr c9
        have H' := Aside0.mk H
        clear H
        go_wp2
        go_meet
        case rel => exact ⟨_, (true), qS, H', ⟨by first | omega | exact Nat.le_refl _⟩, ⟨qB⟩⟩
  case rest =>
    clear HC5
    try clear c2
    try clear p2
    try clear c3
    try clear c6
    try clear c6b0
    try clear c6b1
    try clear c9
    try clear c9b0
    try clear c9b1
    obtain ⟨kq, x22_4, rfl, HA, HJ4, HB⟩ := hcut
    cases kq with
    | zero => exact absurd HA.out (by simp [impl_TurnTerm.j0])
    | succ kj4 =>
      have H := HA.out
      clear HA
      simp only [impl_TurnTerm.j0] at H
      by_cases c12 : x22_4 = true
      · subst c12
        have H1 : (some (([] : List (S47)), false)) = some (r1, r2) := by rw [if_pos rfl] at H; exact H
        clear H
        have H := H1
        clear H1
        simp only [Option.some.injEq, Prod.mk.injEq] at H
        obtain ⟨rfl, rfl⟩ := H
        go_wp2
        go_ret2
        exact ⟨_, qE, by first | exact Kd.R_nil _ _ _ _ _ | exact Kd.N_nil _ _ _ _ _ | exact Kd.V_nil _ _ _ _ _ | exact Kd.Q_nil _ _ _ _ _ | exact Kd.S_nil _ _ _ _ _, qB⟩
      · replace c12 := Bool.eq_false_iff.mpr c12
        subst c12
        have H1 : ((slices_Clone_impl_Node.f l3).bind fun t252 => (if t252.length < 8796093022208 then ((impl_checkedTerm.f kj4 a0 a1 (t252 ++ [(⟨a2, 0⟩ : S47)])).bind fun bt258 => (some (bt258.1, bt258.2))) else (none))) = some (r1, r2) := by rw [if_neg (show ¬ (false = true) by decide)] at H; exact H
        clear H
        have H := H1
        clear H1
        replace H := Option.bind_eq_some_iff.mp H
        obtain ⟨t252, A130, H⟩ := H
        replace H : (if t252.length < 8796093022208 then ((impl_checkedTerm.f kj4 a0 a1 (t252 ++ [(⟨a2, 0⟩ : S47)])).bind fun bt258 => (some (bt258.1, bt258.2))) else (none)) = some (r1, r2) := H
        have A13 := Aside0.mk A130
        clear A130
        by_cases c14 : t252.length < 8796093022208
        · rw [if_pos c14] at H
          have LMc14 := Aside0.mk c14
          clear c14
          obtain ⟨y255, hy255⟩ : ∃ y_ : List (S47), y_ = (t252 ++ [(⟨a2, 0⟩ : S47)]) := ⟨_, rfl⟩
          replace H : ((impl_checkedTerm.f kj4 a0 a1 y255).bind fun bt258 => (some (bt258.1, bt258.2))) = some (r1, r2) := qY hy255 H
          have Ny255 := Aside0.mk hy255
          clear hy255
          replace H := Option.bind_eq_some_iff.mp H
          obtain ⟨⟨t258, t261⟩, A150, H⟩ := H
          replace H : (some (t258, t261)) = some (r1, r2) := H
          have A15 := Aside0.mk A150
          clear A150
          simp only [Option.some.injEq, Prod.mk.injEq] at H
          obtain ⟨rfl, rfl⟩ := H
          go_wp2_with (first | ((with_reducible refine gate_callee (f := 46) rfl ?_); refine goesL_ (some 26) rfl rfl Try.func46 (by kernel_rfl) rfl #[.slice A3 l3.length c3] rfl qG ?_; (with_reducible refine (slices_Clone_impl_Node.calls _ _ l3 t252 _ ?side1 ?side2 A13.out).mono ?_); (case side1 => exact qC (Kd.C_below HR3.out HB.out)); (case side2 => exact HC3.out); rintro e w16 ⟨v253, rfl, ho0, hb⟩; refine ⟨_, rfl, ?_⟩; have n0_ := Aside0.mk (Kd.R_lower ho0 (below_size (qB))); have n1_ := Aside0.mk (below_step (qB) hb); clear HB; have HO254 := n0_; have HB := n1_; clear n0_ n1_; (try clear hb); (try clear hb2); (try clear hk); (try clear hi); (try clear ho0)) | ((with_reducible refine gate_builtin (b := .append) (xs := #[.tmp 26, .tmp 29]) rfl ?_); at_builtin; refine Kd.R_append k47 (w0 := w) w.heap.size rfl (.tmp 26) (.tmp 29) 25 47 (.agg #[(.int .i64 0), (.int .u64 0)]) 16 rfl Try.underlying25 info47 rfl (by decide) (by omega) v253 t252 (⟨a2, 0⟩ : S47) [.int .i64 a2, .int .u64 0] (fun _ => True) (fun _ => False) rfl rfl ?aP (fun _ hk => hk.elim) ?aF ?aO ?aB ?aS ?aL ?_; (case aP => exact k47_mkM _ _ _ (⟨a2, 0⟩ : S47)); (case aB => exact (qB)); (case aF => exact (fun _ _ => trivial)); (case aO => exact (qR HO254.out)); (case aS => exact (below_size (qB))); (case aL => have := LMc14.out; omega); intro v256 w17 ho hb hg hat; rw [← Ny255.out] at ho; have n0_ := Aside0.mk (hb); have n1_ := Aside0.mk (ho); clear HB; clear HO254; have HB := n0_; have HO257 := n1_; clear n0_ n1_; clear ho hb hg hat; obtain ⟨Ao18, co18, eo18⟩ := Kd.R_slice HO257.out; subst eo18) | ((with_reducible refine gate_callee (f := 45) rfl ?_); refine goesL_ (some 31) rfl rfl Try.func45 (by kernel_rfl) rfl #[.int .i64 a0, .int .i64 a1, .slice Ao18 y255.length co18] rfl qG ?_; (with_reducible refine (impl_checkedTerm.calls kj4 a0 a1 (fun k_ => some k_ = (.slice Ao18 y255.length co18 : Value).ownBlock) (.slice Ao18 y255.length co18) y255 t258 t261 w _ ?side1 ?side2 A15.out).mono ?_); (case side1 => repeat (first | (with_reducible first | exact HB.out | apply below_alloc | apply pw_below_drewN | apply below_drew1) | exact HB.out)); (case side2 => exact Kd.R_tight rfl HO257.out); rintro e w19 ⟨v259, rfl, ho0, hb, hkp⟩; refine ⟨_, rfl, ?_⟩; have n0_ := Aside0.mk (Kd.R_mono (ok' := fun k_ => True) ho0 (fun k_ hk_ => trivial)); have n1_ := Aside0.mk (hb); clear HB; clear HO257; have HO260 := n0_; have HB := n1_; clear n0_ n1_; (try clear hb); (try clear hkp); (try clear ho0)))
          go_ret2
          exact ⟨_, qE, qR HO260.out, qB⟩
        · rw [if_neg c14] at H
          exact absurd H (by simp)

end Go.Proofs.Ythageckjjbgonaa.X
