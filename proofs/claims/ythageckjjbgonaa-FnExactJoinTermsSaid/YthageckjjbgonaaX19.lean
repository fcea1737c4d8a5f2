/- Each Go function as a Lean function, with the proof that the call comes to just its answer; or a law's row out of its pure statement. Conditions: the arguments are of their kinds. Written by this session's program wip/xp/xp.sh. -/
import Derived.Test.YthageckjjbgonaaX0
import Derived.Test.YthageckjjbgonaaX1
import Derived.Test.YthageckjjbgonaaX3
import Derived.Test.YthageckjjbgonaaX15
namespace Go.Proofs.Ythageckjjbgonaa.X
open Go.RowKit Go.Proofs.YthageckjjbgonaaW.PrintWords Go.Proofs.YthageckjjbgonaaW.PrintLast Go.Proofs.YthageckjjbgonaaW.PrintMore
attribute [local go_sem] max2_int min2_int max_two min_two max_three min_three max_four min_four   -- for this text's walks alone
set_option linter.unusedVariables false
set_option linter.unusedSimpArgs false

/-! ### spec_JoinTerms: function 23 -/
def spec_JoinTerms.f (k : Nat) (a0 : Int) (a1 : Int) (a2 : Int) (l3 : List (S47)) (l4 : List (S47)) : Option ((List (S47)) × Bool) := (spec_l2Need.f k a2).bind fun bt301 => (if bt301.1 = 2 then ((spec_l2Kind.f k a0 a1 l3).bind fun t304 => (if t304 = bt301.2.1 then ((spec_l2Kind.f k a0 a1 l4).bind fun t305 => (if t305 = bt301.2.1 then ((some (([] : List (S47)) : List (S47))).bind fun y306 => (if y306.length + l3.length < 8796093022208 then ((some (y306 ++ l3 : List (S47))).bind fun y309 => (if y309.length + l4.length < 8796093022208 then ((some (y309 ++ l4 : List (S47))).bind fun y312 => (if y312.length < 8796093022208 then ((spec_l2Made.f k a0 a1 (y312 ++ [(⟨a2, 0⟩ : S47)])).bind fun bt318 => (some (bt318.1, bt318.2))) else (none))) else (none))) else (none))) else (some (([] : List (S47)), false)))) else (some (([] : List (S47)), false)))) else (some (([] : List (S47)), false)))
theorem spec_JoinTerms.mono : ∀ a0 a1 a2 a3 a4 k, LeO (spec_JoinTerms.f k a0 a1 a2 a3 a4) (spec_JoinTerms.f (k + 1) a0 a1 a2 a3 a4) := by
  intro a0 a1 a2 a3 a4 k
  unfold spec_JoinTerms.f
  repeat' first
      | (with_reducible exact spec_l2Kind.mono _ _ _ _)
      | (with_reducible exact spec_l2Made.mono _ _ _ _)
      | (with_reducible exact spec_l2Need.mono _ _)
      | (with_reducible exact LeO.refl _)
      | (with_reducible exact LeO.none _)
      | (with_reducible refine LeO.ite ?_ ?_)
      | (with_reducible refine LeO.bind ?_ (fun _ => ?_))
      | exact spec_l2Kind.mono _ _ _ _
      | exact spec_l2Made.mono _ _ _ _
      | exact spec_l2Need.mono _ _
      | exact LeO.none _
      | refine LeO.ite ?_ ?_
      | refine LeO.bind ?_ (fun _ => ?_)
set_option maxHeartbeats 8000000 in
set_option maxRecDepth 100000 in
theorem spec_JoinTerms.calls (k : Nat) (a0 : Int) (a1 : Int) (a2 : Int) (A3 : Option Addr) (c3 : Nat) (l3 : List (S47)) (A4 : Option Addr) (c4 : Nat) (l4 : List (S47)) (r1 : List (S47)) (r2 : Bool) (w : World) (hr3 : Kd.C k47 w A3 l3.length l3) (hc3 : l3.length ≤ c3) (hr4 : Kd.C k47 w A4 l4.length l4) (hc4 : l4.length ≤ c4) (h : spec_JoinTerms.f k a0 a1 a2 l3 l4 = some (r1, r2)) :
    Calls Try.prog 23 #[.int .i64 a0, .int .i64 a1, .int .i64 a2, .slice A3 l3.length c3, .slice A4 l4.length c4] w fun e w' => ∃ v0_ : Value, e = .returned (.tuple #[v0_, .bool r2]) ∧ Kd.R k47 47 w' w.heap.size (fun _ => True) v0_ r1 ∧ Below w.heap.size w w' := by
  have hu47 := Try.underlying47
  have HR3 := Aside0.mk hr3
  have HC3 := Aside0.mk hc3
  clear hr3 hc3
  have HR4 := Aside0.mk hr4
  have HC4 := Aside0.mk hc4
  clear hr4 hc4
  have HB := Aside0.mk (Below.refl w.heap.size w)
  have H : ((spec_l2Need.f k a2).bind fun bt301 => (if bt301.1 = 2 then ((spec_l2Kind.f k a0 a1 l3).bind fun t304 => (if t304 = bt301.2.1 then ((spec_l2Kind.f k a0 a1 l4).bind fun t305 => (if t305 = bt301.2.1 then ((some (([] : List (S47)) : List (S47))).bind fun y306 => (if y306.length + l3.length < 8796093022208 then ((some (y306 ++ l3 : List (S47))).bind fun y309 => (if y309.length + l4.length < 8796093022208 then ((some (y309 ++ l4 : List (S47))).bind fun y312 => (if y312.length < 8796093022208 then ((spec_l2Made.f k a0 a1 (y312 ++ [(⟨a2, 0⟩ : S47)])).bind fun bt318 => (some (bt318.1, bt318.2))) else (none))) else (none))) else (none))) else (some (([] : List (S47)), false)))) else (some (([] : List (S47)), false)))) else (some (([] : List (S47)), false)))) = some (r1, r2) := h
  clear h
  replace H := Option.bind_eq_some_iff.mp H
  obtain ⟨⟨t301, t302, t303⟩, A60, H⟩ := H
  replace H : (if t301 = 2 then ((spec_l2Kind.f k a0 a1 l3).bind fun t304 => (if t304 = t302 then ((spec_l2Kind.f k a0 a1 l4).bind fun t305 => (if t305 = t302 then ((some (([] : List (S47)) : List (S47))).bind fun y306 => (if y306.length + l3.length < 8796093022208 then ((some (y306 ++ l3 : List (S47))).bind fun y309 => (if y309.length + l4.length < 8796093022208 then ((some (y309 ++ l4 : List (S47))).bind fun y312 => (if y312.length < 8796093022208 then ((spec_l2Made.f k a0 a1 (y312 ++ [(⟨a2, 0⟩ : S47)])).bind fun bt318 => (some (bt318.1, bt318.2))) else (none))) else (none))) else (none))) else (some (([] : List (S47)), false)))) else (some (([] : List (S47)), false)))) else (some (([] : List (S47)), false))) = some (r1, r2) := H
  have A6 := Aside0.mk A60
  clear A60
  by_cases c7 : t301 = 2
  · rw [if_pos c7] at H
    have c7b0 : (t301 == 2) = true := beq_iff_eq.mpr c7
    have c7b1 : (t301 != 2) = false := bne_eq_false_iff_eq.mpr c7
    clear c7
    replace H := Option.bind_eq_some_iff.mp H
    obtain ⟨t304, A80, H⟩ := H
    replace H : (if t304 = t302 then ((spec_l2Kind.f k a0 a1 l4).bind fun t305 => (if t305 = t302 then ((some (([] : List (S47)) : List (S47))).bind fun y306 => (if y306.length + l3.length < 8796093022208 then ((some (y306 ++ l3 : List (S47))).bind fun y309 => (if y309.length + l4.length < 8796093022208 then ((some (y309 ++ l4 : List (S47))).bind fun y312 => (if y312.length < 8796093022208 then ((spec_l2Made.f k a0 a1 (y312 ++ [(⟨a2, 0⟩ : S47)])).bind fun bt318 => (some (bt318.1, bt318.2))) else (none))) else (none))) else (none))) else (some (([] : List (S47)), false)))) else (some (([] : List (S47)), false))) = some (r1, r2) := H
    have A8 := Aside0.mk A80
    clear A80
    by_cases c9 : t304 = t302
    · rw [if_pos c9] at H
      have c9b0 : (t304 == t302) = true := beq_iff_eq.mpr c9
      have c9b1 : (t304 != t302) = false := bne_eq_false_iff_eq.mpr c9
      clear c9
      replace H := Option.bind_eq_some_iff.mp H
      obtain ⟨t305, A100, H⟩ := H
      replace H : (if t305 = t302 then ((some (([] : List (S47)) : List (S47))).bind fun y306 => (if y306.length + l3.length < 8796093022208 then ((some (y306 ++ l3 : List (S47))).bind fun y309 => (if y309.length + l4.length < 8796093022208 then ((some (y309 ++ l4 : List (S47))).bind fun y312 => (if y312.length < 8796093022208 then ((spec_l2Made.f k a0 a1 (y312 ++ [(⟨a2, 0⟩ : S47)])).bind fun bt318 => (some (bt318.1, bt318.2))) else (none))) else (none))) else (none))) else (some (([] : List (S47)), false))) = some (r1, r2) := H
      have A10 := Aside0.mk A100
      clear A100
      by_cases c11 : t305 = t302
      · rw [if_pos c11] at H
        have c11b0 : (t305 == t302) = true := beq_iff_eq.mpr c11
        have c11b1 : (t305 != t302) = false := bne_eq_false_iff_eq.mpr c11
        clear c11
        obtain ⟨y306, hy306⟩ : ∃ y_ : List (S47), y_ = (([] : List (S47))) := ⟨_, rfl⟩
        replace H : (if y306.length + l3.length < 8796093022208 then ((some (y306 ++ l3 : List (S47))).bind fun y309 => (if y309.length + l4.length < 8796093022208 then ((some (y309 ++ l4 : List (S47))).bind fun y312 => (if y312.length < 8796093022208 then ((spec_l2Made.f k a0 a1 (y312 ++ [(⟨a2, 0⟩ : S47)])).bind fun bt318 => (some (bt318.1, bt318.2))) else (none))) else (none))) else (none)) = some (r1, r2) := qY hy306 H
        have Ny306 := Aside0.mk hy306
        clear hy306
        by_cases c12 : y306.length + l3.length < 8796093022208
        · rw [if_pos c12] at H
          have LMc12 := Aside0.mk c12
          clear c12
          obtain ⟨y309, hy309⟩ : ∃ y_ : List (S47), y_ = (y306 ++ l3) := ⟨_, rfl⟩
          replace H : (if y309.length + l4.length < 8796093022208 then ((some (y309 ++ l4 : List (S47))).bind fun y312 => (if y312.length < 8796093022208 then ((spec_l2Made.f k a0 a1 (y312 ++ [(⟨a2, 0⟩ : S47)])).bind fun bt318 => (some (bt318.1, bt318.2))) else (none))) else (none)) = some (r1, r2) := qY hy309 H
          have Ny309 := Aside0.mk hy309
          clear hy309
          by_cases c13 : y309.length + l4.length < 8796093022208
          · rw [if_pos c13] at H
            have LMc13 := Aside0.mk c13
            clear c13
            obtain ⟨y312, hy312⟩ : ∃ y_ : List (S47), y_ = (y309 ++ l4) := ⟨_, rfl⟩
            replace H : (if y312.length < 8796093022208 then ((spec_l2Made.f k a0 a1 (y312 ++ [(⟨a2, 0⟩ : S47)])).bind fun bt318 => (some (bt318.1, bt318.2))) else (none)) = some (r1, r2) := qY hy312 H
            have Ny312 := Aside0.mk hy312
            clear hy312
            by_cases c14 : y312.length < 8796093022208
            · rw [if_pos c14] at H
              have LMc14 := Aside0.mk c14
              clear c14
              obtain ⟨y315, hy315⟩ : ∃ y_ : List (S47), y_ = (y312 ++ [(⟨a2, 0⟩ : S47)]) := ⟨_, rfl⟩
              replace H : ((spec_l2Made.f k a0 a1 y315).bind fun bt318 => (some (bt318.1, bt318.2))) = some (r1, r2) := qY hy315 H
              have Ny315 := Aside0.mk hy315
              clear hy315
              replace H := Option.bind_eq_some_iff.mp H
              obtain ⟨⟨t318, t321⟩, A150, H⟩ := H
              replace H : (some (t318, t321)) = some (r1, r2) := H
              have A15 := Aside0.mk A150
              clear A150
              simp only [Option.some.injEq, Prod.mk.injEq] at H
              obtain ⟨rfl, rfl⟩ := H
              go_enter Try.func23, Try.ntmps23
              go_wp2_with (first | ((with_reducible refine gate_callee (f := 43) rfl ?_); refine goesL_ (some 18) rfl rfl Try.func43 (by kernel_rfl) rfl #[.int .i64 a2] rfl qG ?_; (with_reducible refine (spec_l2Need.calls k a2 t301 t302 t303 _ A6.out).mono ?_); rintro e w' ⟨rfl, ⟨nd, rfl⟩⟩; refine ⟨_, rfl, ?_⟩) | (go_at_call 32; (with_reducible refine (spec_l2Kind.calls k a0 a1 _ _ l3 t304 _ ?side1 ?side2 A8.out).mono ?_); (case side1 => exact qC HR3.out); (case side2 => exact HC3.out); rintro e w16 ⟨rfl, hb⟩; have n0_ := Aside0.mk (below_step (qB) hb); clear HB; have HB := n0_; clear n0_; (try clear hb); (try clear hb2); (try clear hk); (try clear hi)) | (go_at_call 32; (with_reducible refine (spec_l2Kind.calls k a0 a1 _ _ l4 t305 _ ?side1 ?side2 A10.out).mono ?_); (case side1 => exact qC (Kd.C_below HR4.out HB.out)); (case side2 => exact HC4.out); rintro e w17 ⟨rfl, hb⟩; have n0_ := Aside0.mk (below_step (qB) hb); clear HB; have HB := n0_; clear n0_; (try clear hb); (try clear hb2); (try clear hk); (try clear hi)) | ((with_reducible refine gate_dst (N := 40) rfl ?_); refine Kd.R_lit k47 _ 47 ?hg (N := 40) ?hd (xs := ([] : List (S47))) (inner := []) (ok := fun _ => True) (okp := fun _ => True) ?hr ?hp (fun _ hk => hk) trivial (Below.refl _ _) (Nat.le_refl _) (by simp) ?_; (case hd => rfl); (case hg => rfl); (case hr => first | (go_simp; done) | (go_simp; rfl)); (case hp => exact (Reps.none _ _)); intro v307 w18 ho19 hb hg_ hnew_; clear hg_ hnew_; (first | rw [← Ny306.out] at ho19 | (simp only [Int.reduceToNat] at ho19; rw [← Ny306.out] at ho19)); have n0_ := Aside0.mk (Kd.R_lower ho19 (below_size (qB))); have n1_ := Aside0.mk (below_step (qB) hb); clear HB; have HO308 := n0_; have HB := n1_; clear n0_ n1_; clear hb ho19) | ((with_reducible refine gate_builtin (b := .append) (xs := #[.tmp 40, .tmp 41]) rfl ?_); at_builtin; refine Kd.R_append_rows k47 (w0 := w) w.heap.size rfl (.tmp 40) (.tmp 41) 25 47 (.agg #[(.int .i64 0), (.int .u64 0)]) 16 rfl Try.underlying25 info47 rfl (by decide) (by omega) v307 y306 l3 _ _ _ (fun _ => True) (fun _ => False) rfl rfl ?aO ?aR (fun _ _ h => h) (fun _ h => h.elim) ?aF ?aB ?aS ?aL ?_; (case aR => exact qC (Kd.C_below HR3.out HB.out)); (case aB => exact (qB)); (case aF => exact (fun _ _ => trivial)); (case aO => exact (qR HO308.out)); (case aS => exact (below_size (qB))); (case aL => have := LMc12.out; omega); intro v310 w20 ho hb hg hat; rw [← Ny309.out] at ho; have n0_ := Aside0.mk (hb); have n1_ := Aside0.mk (ho); clear HB; clear HO308; have HB := n0_; have HO311 := n1_; clear n0_ n1_; clear ho hb hg hat) | ((with_reducible refine gate_builtin (b := .append) (xs := #[.tmp 43, .tmp 44]) rfl ?_); at_builtin; refine Kd.R_append_rows k47 (w0 := w) w.heap.size rfl (.tmp 43) (.tmp 44) 25 47 (.agg #[(.int .i64 0), (.int .u64 0)]) 16 rfl Try.underlying25 info47 rfl (by decide) (by omega) v310 y309 l4 _ _ _ (fun _ => True) (fun _ => False) rfl rfl ?aO ?aR (fun _ _ h => h) (fun _ h => h.elim) ?aF ?aB ?aS ?aL ?_; (case aR => exact qC (Kd.C_below HR4.out HB.out)); (case aB => exact (qB)); (case aF => exact (fun _ _ => trivial)); (case aO => exact (qR HO311.out)); (case aS => exact (below_size (qB))); (case aL => have := LMc13.out; omega); intro v313 w21 ho hb hg hat; rw [← Ny312.out] at ho; have n0_ := Aside0.mk (hb); have n1_ := Aside0.mk (ho); clear HB; clear HO311; have HB := n0_; have HO314 := n1_; clear n0_ n1_; clear ho hb hg hat) | ((with_reducible refine gate_builtin (b := .append) (xs := #[.tmp 48, .tmp 51]) rfl ?_); at_builtin; refine Kd.R_append k47 (w0 := w) w.heap.size rfl (.tmp 48) (.tmp 51) 25 47 (.agg #[(.int .i64 0), (.int .u64 0)]) 16 rfl Try.underlying25 info47 rfl (by decide) (by omega) v313 y312 (⟨a2, 0⟩ : S47) [.int .i64 a2, .int .u64 0] (fun _ => True) (fun _ => False) rfl rfl ?aP (fun _ hk => hk.elim) ?aF ?aO ?aB ?aS ?aL ?_; (case aP => exact k47_mkM _ _ _ (⟨a2, 0⟩ : S47)); (case aB => exact (qB)); (case aF => exact (fun _ _ => trivial)); (case aO => exact (qR HO314.out)); (case aS => exact (below_size (qB))); (case aL => have := LMc14.out; omega); intro v316 w22 ho hb hg hat; rw [← Ny315.out] at ho; have n0_ := Aside0.mk (hb); have n1_ := Aside0.mk (ho); clear HB; clear HO314; have HB := n0_; have HO317 := n1_; clear n0_ n1_; clear ho hb hg hat; obtain ⟨Ao23, co23, eo23⟩ := Kd.R_slice HO317.out; subst eo23) | ((with_reducible refine gate_callee (f := 44) rfl ?_); refine goesL_ (some 53) rfl rfl Try.func44 (by kernel_rfl) rfl #[.int .i64 a0, .int .i64 a1, .slice Ao23 y315.length co23] rfl qG ?_; (with_reducible refine (spec_l2Made.calls k a0 a1 (fun k_ => some k_ = (.slice Ao23 y315.length co23 : Value).ownBlock) (.slice Ao23 y315.length co23) y315 t318 t321 w _ ?side1 ?side2 A15.out).mono ?_); (case side1 => repeat (first | (with_reducible first | exact HB.out | apply below_alloc | apply pw_below_drewN | apply below_drew1) | exact HB.out)); (case side2 => exact Kd.R_tight rfl HO317.out); rintro e w24 ⟨v319, rfl, ho0, hb, hkp⟩; refine ⟨_, rfl, ?_⟩; have n0_ := Aside0.mk (Kd.R_mono (ok' := fun k_ => True) ho0 (fun k_ hk_ => trivial)); have n1_ := Aside0.mk (hb); clear HB; clear HO317; have HO320 := n0_; have HB := n1_; clear n0_ n1_; (try clear hb); (try clear hkp); (try clear ho0)))
              go_ret2
              exact ⟨_, qE, qR HO320.out, qB⟩
            · rw [if_neg c14] at H
              exact absurd H (by simp)
          · rw [if_neg c13] at H
            exact absurd H (by simp)
        · rw [if_neg c12] at H
          exact absurd H (by simp)
      · rw [if_neg c11] at H
        have c11b0 : (t305 == t302) = false := beq_eq_false_iff_ne.mpr c11
        have c11b1 : (t305 != t302) = true := bne_iff_ne.mpr c11
        simp only [Option.some.injEq, Prod.mk.injEq] at H
        obtain ⟨rfl, rfl⟩ := H
        go_enter Try.func23, Try.ntmps23
        go_wp2_with (first | ((with_reducible refine gate_callee (f := 43) rfl ?_); refine goesL_ (some 18) rfl rfl Try.func43 (by kernel_rfl) rfl #[.int .i64 a2] rfl qG ?_; (with_reducible refine (spec_l2Need.calls k a2 t301 t302 t303 _ A6.out).mono ?_); rintro e w' ⟨rfl, ⟨nd, rfl⟩⟩; refine ⟨_, rfl, ?_⟩) | (go_at_call 32; (with_reducible refine (spec_l2Kind.calls k a0 a1 _ _ l3 t304 _ ?side1 ?side2 A8.out).mono ?_); (case side1 => exact qC HR3.out); (case side2 => exact HC3.out); rintro e w25 ⟨rfl, hb⟩; have n0_ := Aside0.mk (below_step (qB) hb); clear HB; have HB := n0_; clear n0_; (try clear hb); (try clear hb2); (try clear hk); (try clear hi)) | (go_at_call 32; (with_reducible refine (spec_l2Kind.calls k a0 a1 _ _ l4 t305 _ ?side1 ?side2 A10.out).mono ?_); (case side1 => exact qC (Kd.C_below HR4.out HB.out)); (case side2 => exact HC4.out); rintro e w26 ⟨rfl, hb⟩; have n0_ := Aside0.mk (below_step (qB) hb); clear HB; have HB := n0_; clear n0_; (try clear hb); (try clear hb2); (try clear hk); (try clear hi)))
        go_ret2
        exact ⟨_, qE, by first | exact Kd.R_nil _ _ _ _ _ | exact Kd.N_nil _ _ _ _ _ | exact Kd.V_nil _ _ _ _ _ | exact Kd.Q_nil _ _ _ _ _ | exact Kd.S_nil _ _ _ _ _, qB⟩
    · rw [if_neg c9] at H
      have c9b0 : (t304 == t302) = false := beq_eq_false_iff_ne.mpr c9
      have c9b1 : (t304 != t302) = true := bne_iff_ne.mpr c9
      simp only [Option.some.injEq, Prod.mk.injEq] at H
      obtain ⟨rfl, rfl⟩ := H
      go_enter Try.func23, Try.ntmps23
      go_wp2_with (first | ((with_reducible refine gate_callee (f := 43) rfl ?_); refine goesL_ (some 18) rfl rfl Try.func43 (by kernel_rfl) rfl #[.int .i64 a2] rfl qG ?_; (with_reducible refine (spec_l2Need.calls k a2 t301 t302 t303 _ A6.out).mono ?_); rintro e w' ⟨rfl, ⟨nd, rfl⟩⟩; refine ⟨_, rfl, ?_⟩) | (go_at_call 32; (with_reducible refine (spec_l2Kind.calls k a0 a1 _ _ l3 t304 _ ?side1 ?side2 A8.out).mono ?_); (case side1 => exact qC HR3.out); (case side2 => exact HC3.out); rintro e w27 ⟨rfl, hb⟩; have n0_ := Aside0.mk (below_step (qB) hb); clear HB; have HB := n0_; clear n0_; (try clear hb); (try clear hb2); (try clear hk); (try clear hi)))
      go_ret2
      exact ⟨_, qE, by first | exact Kd.R_nil _ _ _ _ _ | exact Kd.N_nil _ _ _ _ _ | exact Kd.V_nil _ _ _ _ _ | exact Kd.Q_nil _ _ _ _ _ | exact Kd.S_nil _ _ _ _ _, qB⟩
  · rw [if_neg c7] at H
    have c7b0 : (t301 == 2) = false := beq_eq_false_iff_ne.mpr c7
    have c7b1 : (t301 != 2) = true := bne_iff_ne.mpr c7
    simp only [Option.some.injEq, Prod.mk.injEq] at H
    obtain ⟨rfl, rfl⟩ := H
    go_enter Try.func23, Try.ntmps23
    go_wp2_with (first | ((with_reducible refine gate_callee (f := 43) rfl ?_); refine goesL_ (some 18) rfl rfl Try.func43 (by kernel_rfl) rfl #[.int .i64 a2] rfl qG ?_; (with_reducible refine (spec_l2Need.calls k a2 t301 t302 t303 _ A6.out).mono ?_); rintro e w' ⟨rfl, ⟨nd, rfl⟩⟩; refine ⟨_, rfl, ?_⟩))
    go_ret2
    exact ⟨_, qE, by first | exact Kd.R_nil _ _ _ _ _ | exact Kd.N_nil _ _ _ _ _ | exact Kd.V_nil _ _ _ _ _ | exact Kd.Q_nil _ _ _ _ _ | exact Kd.S_nil _ _ _ _ _, qB⟩

-- NOT PRINTED: function 59 (slices_Grow_impl_Node)

end Go.Proofs.Ythageckjjbgonaa.X
