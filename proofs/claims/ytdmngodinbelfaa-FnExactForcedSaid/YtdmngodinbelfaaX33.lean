/- Each Go function as a Lean function, with the proof that the call comes to just its answer; or a law's row out of its pure statement. Conditions: the arguments are of their kinds. Written by this session's program wip/xp/xp.sh. -/
import Derived.Test.YtdmngodinbelfaaX0
import Derived.Test.YtdmngodinbelfaaX1
import Derived.Test.YtdmngodinbelfaaX3
import Derived.Test.YtdmngodinbelfaaX7
import Derived.Test.YtdmngodinbelfaaX20
import Derived.Test.YtdmngodinbelfaaX28
import Derived.Test.YtdmngodinbelfaaX31
namespace Go.Proofs.Ytdmngodinbelfaa.X
open Go.RowKit Go.Proofs.YtdmngodinbelfaaW.PrintWords Go.Proofs.YtdmngodinbelfaaW.PrintLast Go.Proofs.YtdmngodinbelfaaW.PrintMore
attribute [local go_sem] max2_int min2_int max_two min_two max_three min_three max_four min_four   -- for this text's walks alone
set_option linter.unusedVariables false
set_option linter.unusedSimpArgs false

/-! ### laws_FnExactForced: function 6 -/
mutual
def laws_FnExactForced.j0 : Nat → List Int → List Int → Bool → Bool → List Int → List Int → Bool → Bool → Bool → Int → List (List Int) → Int → List (List Int) → Option (Bool)
  | 0, _, _, _, _, _, _, _, _, _, _, _, _, _ => none
  | k + 1, x1, x6, x7, x8, x10, x11, x12, x13, x61, x304000, x304001, x322000, x322001 => if x61 = true then (some false) else ((laws_toCnf.f k x304000 x304001).bind fun bt331 => ((laws_eqCnf.f k x322000 x322001 bt331.1 bt331.2).bind fun t335 => (if t335 = true then ((laws_toIntS.f k x1).bind fun t336 => ((laws_eqIntS.f k x10 t336).bind fun t339 => (if t339 = true then ((laws_markCnf.f x322000 x322001 1).bind fun t340 => ((laws_markIntS.f k x10 t340).bind fun bt341 => (if bt341.1 < 0 then (laws_FnExactForced.j1 k x1 x6 x7 x8 x11 true x304000 x304001) else ((laws_eqIntS.f k x11 x6).bind fun t343 => (if t343 = true then (if (x12 != x7) = true then (laws_FnExactForced.j1 k x1 x6 x7 x8 x11 true x304000 x304001) else (laws_FnExactForced.j1 k x1 x6 x7 x8 x11 (x13 != x8) x304000 x304001)) else (laws_FnExactForced.j1 k x1 x6 x7 x8 x11 true x304000 x304001)))))) else (some false)))) else (some false))))
def laws_FnExactForced.j1 : Nat → List Int → List Int → Bool → Bool → List Int → Bool → Int → List (List Int) → Option (Bool)
  | 0, _, _, _, _, _, _, _, _ => none
  | k + 1, x1, x6, x7, x8, x11, x95, x304000, x304001 => if x95 = true then (some false) else ((laws_markIntS.f k x11 1).bind fun bt344 => ((laws_heldIntS.f k bt344.2 1).bind fun t346 => (if t346 < 0 then (some false) else (if t346 = bt344.1 then ((laws_toCnf.f k x304000 x304001).bind fun bt347 => ((laws_toIntS.f k x1).bind fun t351 => ((impl_Forced.f k bt347.1 bt347.2 t351).bind fun bt354 => ((laws_eqIntS.f k bt354.1 x6).bind fun t359 => (if t359 = true then (if (bt354.2.1 != x7) = true then (laws_FnExactForced.j2 k bt344.2 bt344.1 true) else (laws_FnExactForced.j2 k bt344.2 bt344.1 (bt354.2.2 != x8))) else (laws_FnExactForced.j2 k bt344.2 bt344.1 true)))))) else (some false)))))
def laws_FnExactForced.j2 : Nat → List Int → Int → Bool → Option (Bool)
  | 0, _, _, _ => none
  | k + 1, x11, x15, x129 => if x129 = true then (some false) else ((laws_heldIntS.f k x11 1).bind fun t360 => (if t360 < 0 then (some false) else (if t360 = x15 then (some true) else (some false))))
end
def laws_FnExactForced.f (k : Nat) (a0_0 : Int) (l0_1 : List (List Int)) (l1 : List Int) : Option (Bool) := if (l1.length : Int) > 1048576 then (some true) else ((laws_szCnf.f k a0_0 l0_1 1048576).bind fun t304 => (if t304 < 0 then (some true) else ((laws_toCnf.f k a0_0 l0_1).bind fun bt305 => ((laws_toIntS.f k l1).bind fun t309 => ((spec_Forced.f k bt305.1 bt305.2 t309).bind fun bt312 => ((laws_toCnf.f k a0_0 l0_1).bind fun bt317 => ((laws_toIntS.f k l1).bind fun t322 => ((impl_Forced.f k bt317.1 bt317.2 t322).bind fun bt325 => ((laws_eqIntS.f k bt325.1 bt312.1).bind fun t330 => (if t330 = true then (if (bt325.2.1 != bt312.2.1) = true then (laws_FnExactForced.j0 k l1 bt312.1 bt312.2.1 bt312.2.2 t322 bt325.1 bt325.2.1 bt325.2.2 true a0_0 l0_1 bt317.1 bt317.2) else (laws_FnExactForced.j0 k l1 bt312.1 bt312.2.1 bt312.2.2 t322 bt325.1 bt325.2.1 bt325.2.2 (bt325.2.2 != bt312.2.2) a0_0 l0_1 bt317.1 bt317.2)) else (laws_FnExactForced.j0 k l1 bt312.1 bt312.2.1 bt312.2.2 t322 bt325.1 bt325.2.1 bt325.2.2 true a0_0 l0_1 bt317.1 bt317.2)))))))))))
theorem laws_FnExactForced.mono_l : ∀ k, (∀ y0 y1 y2 y3 y4 y5 y6 y7 y8 y9 y10 y11 y12, LeO (laws_FnExactForced.j0 k y0 y1 y2 y3 y4 y5 y6 y7 y8 y9 y10 y11 y12) (laws_FnExactForced.j0 (k + 1) y0 y1 y2 y3 y4 y5 y6 y7 y8 y9 y10 y11 y12)) ∧ (∀ y0 y1 y2 y3 y4 y5 y6 y7, LeO (laws_FnExactForced.j1 k y0 y1 y2 y3 y4 y5 y6 y7) (laws_FnExactForced.j1 (k + 1) y0 y1 y2 y3 y4 y5 y6 y7)) ∧ (∀ y0 y1 y2, LeO (laws_FnExactForced.j2 k y0 y1 y2) (laws_FnExactForced.j2 (k + 1) y0 y1 y2))
  | 0 => ⟨fun _ _ _ _ _ _ _ _ _ _ _ _ _ r h => by simp [laws_FnExactForced.j0] at h, fun _ _ _ _ _ _ _ _ r h => by simp [laws_FnExactForced.j1] at h, fun _ _ _ r h => by simp [laws_FnExactForced.j2] at h⟩
  | k + 1 => by
    obtain ⟨ih0, ih1, ih2⟩ := laws_FnExactForced.mono_l k
    refine ⟨?_, ?_, ?_⟩
    · intro y0 y1 y2 y3 y4 y5 y6 y7 y8 y9 y10 y11 y12
      unfold laws_FnExactForced.j0
      repeat' first
      | (with_reducible exact ih0 _ _ _ _ _ _ _ _ _ _ _ _ _)
      | (with_reducible exact ih1 _ _ _ _ _ _ _ _)
      | (with_reducible exact ih2 _ _ _)
      | (with_reducible exact impl_Forced.mono _ _ _ _)
      | (with_reducible exact laws_eqCnf.mono _ _ _ _ _)
      | (with_reducible exact laws_eqIntS.mono _ _ _)
      | (with_reducible exact laws_heldIntS.mono _ _ _)
      | (with_reducible exact laws_markIntS.mono _ _ _)
      | (with_reducible exact laws_szCnf.mono _ _ _ _)
      | (with_reducible exact laws_toCnf.mono _ _ _)
      | (with_reducible exact laws_toIntS.mono _ _)
      | (with_reducible exact spec_Forced.mono _ _ _ _)
      | (with_reducible exact LeO.refl _)
      | (with_reducible exact LeO.none _)
      | (with_reducible refine LeO.ite ?_ ?_)
      | (with_reducible refine LeO.bind ?_ (fun _ => ?_))
      | exact ih0 _ _ _ _ _ _ _ _ _ _ _ _ _
      | exact ih1 _ _ _ _ _ _ _ _
      | exact ih2 _ _ _
      | exact impl_Forced.mono _ _ _ _
      | exact laws_eqCnf.mono _ _ _ _ _
      | exact laws_eqIntS.mono _ _ _
      | exact laws_heldIntS.mono _ _ _
      | exact laws_markIntS.mono _ _ _
      | exact laws_szCnf.mono _ _ _ _
      | exact laws_toCnf.mono _ _ _
      | exact laws_toIntS.mono _ _
      | exact spec_Forced.mono _ _ _ _
      | exact LeO.none _
      | refine LeO.ite ?_ ?_
      | refine LeO.bind ?_ (fun _ => ?_)
    · intro y0 y1 y2 y3 y4 y5 y6 y7
      unfold laws_FnExactForced.j1
      repeat' first
      | (with_reducible exact ih0 _ _ _ _ _ _ _ _ _ _ _ _ _)
      | (with_reducible exact ih1 _ _ _ _ _ _ _ _)
      | (with_reducible exact ih2 _ _ _)
      | (with_reducible exact impl_Forced.mono _ _ _ _)
      | (with_reducible exact laws_eqCnf.mono _ _ _ _ _)
      | (with_reducible exact laws_eqIntS.mono _ _ _)
      | (with_reducible exact laws_heldIntS.mono _ _ _)
      | (with_reducible exact laws_markIntS.mono _ _ _)
      | (with_reducible exact laws_szCnf.mono _ _ _ _)
      | (with_reducible exact laws_toCnf.mono _ _ _)
      | (with_reducible exact laws_toIntS.mono _ _)
      | (with_reducible exact spec_Forced.mono _ _ _ _)
      | (with_reducible exact LeO.refl _)
      | (with_reducible exact LeO.none _)
      | (with_reducible refine LeO.ite ?_ ?_)
      | (with_reducible refine LeO.bind ?_ (fun _ => ?_))
      | exact ih0 _ _ _ _ _ _ _ _ _ _ _ _ _
      | exact ih1 _ _ _ _ _ _ _ _
      | exact ih2 _ _ _
      | exact impl_Forced.mono _ _ _ _
      | exact laws_eqCnf.mono _ _ _ _ _
      | exact laws_eqIntS.mono _ _ _
      | exact laws_heldIntS.mono _ _ _
      | exact laws_markIntS.mono _ _ _
      | exact laws_szCnf.mono _ _ _ _
      | exact laws_toCnf.mono _ _ _
      | exact laws_toIntS.mono _ _
      | exact spec_Forced.mono _ _ _ _
      | exact LeO.none _
      | refine LeO.ite ?_ ?_
      | refine LeO.bind ?_ (fun _ => ?_)
    · intro y0 y1 y2
      unfold laws_FnExactForced.j2
      repeat' first
      | (with_reducible exact ih0 _ _ _ _ _ _ _ _ _ _ _ _ _)
      | (with_reducible exact ih1 _ _ _ _ _ _ _ _)
      | (with_reducible exact ih2 _ _ _)
      | (with_reducible exact impl_Forced.mono _ _ _ _)
      | (with_reducible exact laws_eqCnf.mono _ _ _ _ _)
      | (with_reducible exact laws_eqIntS.mono _ _ _)
      | (with_reducible exact laws_heldIntS.mono _ _ _)
      | (with_reducible exact laws_markIntS.mono _ _ _)
      | (with_reducible exact laws_szCnf.mono _ _ _ _)
      | (with_reducible exact laws_toCnf.mono _ _ _)
      | (with_reducible exact laws_toIntS.mono _ _)
      | (with_reducible exact spec_Forced.mono _ _ _ _)
      | (with_reducible exact LeO.refl _)
      | (with_reducible exact LeO.none _)
      | (with_reducible refine LeO.ite ?_ ?_)
      | (with_reducible refine LeO.bind ?_ (fun _ => ?_))
      | exact ih0 _ _ _ _ _ _ _ _ _ _ _ _ _
      | exact ih1 _ _ _ _ _ _ _ _
      | exact ih2 _ _ _
      | exact impl_Forced.mono _ _ _ _
      | exact laws_eqCnf.mono _ _ _ _ _
      | exact laws_eqIntS.mono _ _ _
      | exact laws_heldIntS.mono _ _ _
      | exact laws_markIntS.mono _ _ _
      | exact laws_szCnf.mono _ _ _ _
      | exact laws_toCnf.mono _ _ _
      | exact laws_toIntS.mono _ _
      | exact spec_Forced.mono _ _ _ _
      | exact LeO.none _
      | refine LeO.ite ?_ ?_
      | refine LeO.bind ?_ (fun _ => ?_)
theorem laws_FnExactForced.mono : ∀ a0 a1 a2 k, LeO (laws_FnExactForced.f k a0 a1 a2) (laws_FnExactForced.f (k + 1) a0 a1 a2) := by
  intro a0 a1 a2 k
  obtain ⟨ih0, ih1, ih2⟩ := laws_FnExactForced.mono_l k
  unfold laws_FnExactForced.f
  repeat' first
      | (with_reducible exact ih0 _ _ _ _ _ _ _ _ _ _ _ _ _)
      | (with_reducible exact ih1 _ _ _ _ _ _ _ _)
      | (with_reducible exact ih2 _ _ _)
      | (with_reducible exact impl_Forced.mono _ _ _ _)
      | (with_reducible exact laws_eqCnf.mono _ _ _ _ _)
      | (with_reducible exact laws_eqIntS.mono _ _ _)
      | (with_reducible exact laws_heldIntS.mono _ _ _)
      | (with_reducible exact laws_markIntS.mono _ _ _)
      | (with_reducible exact laws_szCnf.mono _ _ _ _)
      | (with_reducible exact laws_toCnf.mono _ _ _)
      | (with_reducible exact laws_toIntS.mono _ _)
      | (with_reducible exact spec_Forced.mono _ _ _ _)
      | (with_reducible exact LeO.refl _)
      | (with_reducible exact LeO.none _)
      | (with_reducible refine LeO.ite ?_ ?_)
      | (with_reducible refine LeO.bind ?_ (fun _ => ?_))
      | exact ih0 _ _ _ _ _ _ _ _ _ _ _ _ _
      | exact ih1 _ _ _ _ _ _ _ _
      | exact ih2 _ _ _
      | exact impl_Forced.mono _ _ _ _
      | exact laws_eqCnf.mono _ _ _ _ _
      | exact laws_eqIntS.mono _ _ _
      | exact laws_heldIntS.mono _ _ _
      | exact laws_markIntS.mono _ _ _
      | exact laws_szCnf.mono _ _ _ _
      | exact laws_toCnf.mono _ _ _
      | exact laws_toIntS.mono _ _
      | exact spec_Forced.mono _ _ _ _
      | exact LeO.none _
      | refine LeO.ite ?_ ?_
      | refine LeO.bind ?_ (fun _ => ?_)
set_option maxHeartbeats 8000000 in
set_option maxRecDepth 100000 in
theorem laws_FnExactForced.calls (k : Nat) (a0_0 : Int) (A0_1 : Option Addr) (c0_1 : Nat) (l0_1 : List (List Int)) (A1 : Option Addr) (c1 : Nat) (l1 : List Int) (r : Bool) (w : World) (hr0_1 : Kd.C (Kd.slice 3 (Kd.int .i64)) w A0_1 l0_1.length l0_1) (hc0_1 : l0_1.length ≤ c0_1) (hr1 : Kd.C (Kd.int .i64) w A1 l1.length l1) (hc1 : l1.length ≤ c1) (h : laws_FnExactForced.f k a0_0 l0_1 l1 = some true) :
    Calls Try.prog 6 #[.agg #[.int .i64 a0_0, .slice A0_1 l0_1.length c0_1], .slice A1 l1.length c1] w fun e w' => e = .returned (.bool true) ∧ Below w.heap.size w w' := by
  have hu24 := Try.underlying24
  have hu27 := Try.underlying27
  have HR0_1 := Aside0.mk hr0_1
  have HC0_1 := Aside0.mk hc0_1
  clear hr0_1 hc0_1
  have HR1 := Aside0.mk hr1
  have HC1 := Aside0.mk hc1
  clear hr1 hc1
  have HB := Aside0.mk (Below.refl w.heap.size w)
  have H : (if (l1.length : Int) > 1048576 then (some true) else ((laws_szCnf.f k a0_0 l0_1 1048576).bind fun t304 => (if t304 < 0 then (some true) else ((laws_toCnf.f k a0_0 l0_1).bind fun bt305 => ((laws_toIntS.f k l1).bind fun t309 => ((spec_Forced.f k bt305.1 bt305.2 t309).bind fun bt312 => ((laws_toCnf.f k a0_0 l0_1).bind fun bt317 => ((laws_toIntS.f k l1).bind fun t322 => ((impl_Forced.f k bt317.1 bt317.2 t322).bind fun bt325 => ((laws_eqIntS.f k bt325.1 bt312.1).bind fun t330 => (if t330 = true then (if (bt325.2.1 != bt312.2.1) = true then (laws_FnExactForced.j0 k l1 bt312.1 bt312.2.1 bt312.2.2 t322 bt325.1 bt325.2.1 bt325.2.2 true a0_0 l0_1 bt317.1 bt317.2) else (laws_FnExactForced.j0 k l1 bt312.1 bt312.2.1 bt312.2.2 t322 bt325.1 bt325.2.1 bt325.2.2 (bt325.2.2 != bt312.2.2) a0_0 l0_1 bt317.1 bt317.2)) else (laws_FnExactForced.j0 k l1 bt312.1 bt312.2.1 bt312.2.2 t322 bt325.1 bt325.2.1 bt325.2.2 true a0_0 l0_1 bt317.1 bt317.2)))))))))))) = some true := h
  clear h
  by_cases c3 : (l1.length : Int) > 1048576
  · rw [if_pos c3] at H
    have c3b0 : decide (1048576 < (l1.length : Int)) = true := decide_eq_true c3
    have c3b1 : decide (1048576 < l1.length) = true := decide_eq_true (by omega)
    clear c3
    go_enter Try.func6, Try.ntmps6
    go_wp2_with (first | ((with_reducible refine gate_dst (N := 2) rfl ?_); refine box_event ?hg (N := 2) ?hd (cs := #[.int .i64 a0_0, .slice A0_1 l0_1.length c0_1]) (t := 24) ?hr ?_; (case hd => rfl); (case hg => rfl); (case hr => first | (go_simp; done) | (go_simp; rfl)); intro gb303 hg w4 hbox hb; have n0_ := Aside0.mk (below_step (qB) hb); have n1_ := Aside0.mk (hbox); have n2_ := Aside0.mk ((by rw [hg]; exact (below_size (qB)) : w.heap.size ≤ gb303)); have n3_ := Aside0.mk ((by rw [hg]; exact (below_size (qB)) : w.heap.size ≤ gb303)); clear HB; have HB := n0_; have BK303 := n1_; have GW303 := n2_; have GE303 := n3_; clear n0_ n1_ n2_ n3_; clear hb hbox hg))
    go_ret
    exact ⟨qE, qB⟩
  · rw [if_neg c3] at H
    have c3b0 : decide (1048576 < (l1.length : Int)) = false := decide_eq_false c3
    have c3b1 : decide (1048576 < l1.length) = false := decide_eq_false (by omega)
    clear c3
    replace H := Option.bind_eq_some_iff.mp H
    obtain ⟨t304, A50, H⟩ := H
    replace H : (if t304 < 0 then (some true) else ((laws_toCnf.f k a0_0 l0_1).bind fun bt305 => ((laws_toIntS.f k l1).bind fun t309 => ((spec_Forced.f k bt305.1 bt305.2 t309).bind fun bt312 => ((laws_toCnf.f k a0_0 l0_1).bind fun bt317 => ((laws_toIntS.f k l1).bind fun t322 => ((impl_Forced.f k bt317.1 bt317.2 t322).bind fun bt325 => ((laws_eqIntS.f k bt325.1 bt312.1).bind fun t330 => (if t330 = true then (if (bt325.2.1 != bt312.2.1) = true then (laws_FnExactForced.j0 k l1 bt312.1 bt312.2.1 bt312.2.2 t322 bt325.1 bt325.2.1 bt325.2.2 true a0_0 l0_1 bt317.1 bt317.2) else (laws_FnExactForced.j0 k l1 bt312.1 bt312.2.1 bt312.2.2 t322 bt325.1 bt325.2.1 bt325.2.2 (bt325.2.2 != bt312.2.2) a0_0 l0_1 bt317.1 bt317.2)) else (laws_FnExactForced.j0 k l1 bt312.1 bt312.2.1 bt312.2.2 t322 bt325.1 bt325.2.1 bt325.2.2 true a0_0 l0_1 bt317.1 bt317.2)))))))))) = some true := H
    have A5 := Aside0.mk A50
    clear A50
    by_cases c6 : t304 < 0
    · rw [if_pos c6] at H
      have c6b0 : decide (t304 < 0) = true := decide_eq_true c6
      clear c6
      go_enter Try.func6, Try.ntmps6
      go_wp2_with (first | ((with_reducible refine gate_dst (N := 2) rfl ?_); refine box_event ?hg (N := 2) ?hd (cs := #[.int .i64 a0_0, .slice A0_1 l0_1.length c0_1]) (t := 24) ?hr ?_; (case hd => rfl); (case hg => rfl); (case hr => first | (go_simp; done) | (go_simp; rfl)); intro gb303 hg w7 hbox hb; have n0_ := Aside0.mk (below_step (qB) hb); have n1_ := Aside0.mk (hbox); have n2_ := Aside0.mk ((by rw [hg]; exact (below_size (qB)) : w.heap.size ≤ gb303)); have n3_ := Aside0.mk ((by rw [hg]; exact (below_size (qB)) : w.heap.size ≤ gb303)); clear HB; have HB := n0_; have BK303 := n1_; have GW303 := n2_; have GE303 := n3_; clear n0_ n1_ n2_ n3_; clear hb hbox hg; have hcz8_0 : w7.cell? ⟨gb303, 0, none⟩ = some (.int .i64 a0_0) := (blk_cell BK303.out 0).trans rfl; have hcz8_1 : w7.cell? ⟨gb303, 1, none⟩ = some (.slice A0_1 l0_1.length c0_1) := (blk_cell BK303.out 1).trans rfl; have hfz8_0 := blk_frozen BK303.out 0; have hfz8_1 := blk_frozen BK303.out 1) | ((with_reducible refine gate_callee (f := 9) rfl ?_); refine goesL_ (some 25) rfl rfl Try.func9 (by kernel_rfl) rfl #[.agg #[.int .i64 a0_0, .slice A0_1 l0_1.length c0_1], .int .i64 1048576] rfl qG ?_; (with_reducible refine (laws_szCnf.calls k a0_0 _ _ l0_1 1048576 t304 _ ?side1 ?side2 A5.out).mono ?_); (case side1 => exact qC (Kd.C_below HR0_1.out HB.out)); (case side2 => exact HC0_1.out); rintro e w9 ⟨rfl, hb⟩; refine ⟨_, rfl, ?_⟩; have n0_ := Aside0.mk (blk_below (g := gb303) (o := .cells #[.int .i64 a0_0, .slice A0_1 l0_1.length c0_1] 24 (0, 0)) (qK BK303.out) hb); have n1_ := Aside0.mk (below_step (qB) hb); clear BK303; clear HB; have BK303 := n0_; have HB := n1_; clear n0_ n1_; (try clear hb); (try clear hb2); (try clear hk); (try clear hi)))
      go_ret
      exact ⟨qE, qB⟩
    · rw [if_neg c6] at H
      have c6b0 : decide (t304 < 0) = false := decide_eq_false c6
      clear c6
      replace H := Option.bind_eq_some_iff.mp H
      obtain ⟨⟨t305, t306⟩, A100, H⟩ := H
      replace H : ((laws_toIntS.f k l1).bind fun t309 => ((spec_Forced.f k t305 t306 t309).bind fun bt312 => ((laws_toCnf.f k a0_0 l0_1).bind fun bt317 => ((laws_toIntS.f k l1).bind fun t322 => ((impl_Forced.f k bt317.1 bt317.2 t322).bind fun bt325 => ((laws_eqIntS.f k bt325.1 bt312.1).bind fun t330 => (if t330 = true then (if (bt325.2.1 != bt312.2.1) = true then (laws_FnExactForced.j0 k l1 bt312.1 bt312.2.1 bt312.2.2 t322 bt325.1 bt325.2.1 bt325.2.2 true a0_0 l0_1 bt317.1 bt317.2) else (laws_FnExactForced.j0 k l1 bt312.1 bt312.2.1 bt312.2.2 t322 bt325.1 bt325.2.1 bt325.2.2 (bt325.2.2 != bt312.2.2) a0_0 l0_1 bt317.1 bt317.2)) else (laws_FnExactForced.j0 k l1 bt312.1 bt312.2.1 bt312.2.2 t322 bt325.1 bt325.2.1 bt325.2.2 true a0_0 l0_1 bt317.1 bt317.2)))))))) = some true := H
      have A10 := Aside0.mk A100
      clear A100
      replace H := Option.bind_eq_some_iff.mp H
      obtain ⟨t309, A110, H⟩ := H
      replace H : ((spec_Forced.f k t305 t306 t309).bind fun bt312 => ((laws_toCnf.f k a0_0 l0_1).bind fun bt317 => ((laws_toIntS.f k l1).bind fun t322 => ((impl_Forced.f k bt317.1 bt317.2 t322).bind fun bt325 => ((laws_eqIntS.f k bt325.1 bt312.1).bind fun t330 => (if t330 = true then (if (bt325.2.1 != bt312.2.1) = true then (laws_FnExactForced.j0 k l1 bt312.1 bt312.2.1 bt312.2.2 t322 bt325.1 bt325.2.1 bt325.2.2 true a0_0 l0_1 bt317.1 bt317.2) else (laws_FnExactForced.j0 k l1 bt312.1 bt312.2.1 bt312.2.2 t322 bt325.1 bt325.2.1 bt325.2.2 (bt325.2.2 != bt312.2.2) a0_0 l0_1 bt317.1 bt317.2)) else (laws_FnExactForced.j0 k l1 bt312.1 bt312.2.1 bt312.2.2 t322 bt325.1 bt325.2.1 bt325.2.2 true a0_0 l0_1 bt317.1 bt317.2))))))) = some true := H
      have A11 := Aside0.mk A110
      clear A110
      replace H := Option.bind_eq_some_iff.mp H
      obtain ⟨⟨t312, t315, t316⟩, A120, H⟩ := H
      replace H : ((laws_toCnf.f k a0_0 l0_1).bind fun bt317 => ((laws_toIntS.f k l1).bind fun t322 => ((impl_Forced.f k bt317.1 bt317.2 t322).bind fun bt325 => ((laws_eqIntS.f k bt325.1 t312).bind fun t330 => (if t330 = true then (if (bt325.2.1 != t315) = true then (laws_FnExactForced.j0 k l1 t312 t315 t316 t322 bt325.1 bt325.2.1 bt325.2.2 true a0_0 l0_1 bt317.1 bt317.2) else (laws_FnExactForced.j0 k l1 t312 t315 t316 t322 bt325.1 bt325.2.1 bt325.2.2 (bt325.2.2 != t316) a0_0 l0_1 bt317.1 bt317.2)) else (laws_FnExactForced.j0 k l1 t312 t315 t316 t322 bt325.1 bt325.2.1 bt325.2.2 true a0_0 l0_1 bt317.1 bt317.2)))))) = some true := H
      have A12 := Aside0.mk A120
      clear A120
      replace H := Option.bind_eq_some_iff.mp H
      obtain ⟨⟨t317, t318⟩, A130, H⟩ := H
      replace H : ((laws_toIntS.f k l1).bind fun t322 => ((impl_Forced.f k t317 t318 t322).bind fun bt325 => ((laws_eqIntS.f k bt325.1 t312).bind fun t330 => (if t330 = true then (if (bt325.2.1 != t315) = true then (laws_FnExactForced.j0 k l1 t312 t315 t316 t322 bt325.1 bt325.2.1 bt325.2.2 true a0_0 l0_1 t317 t318) else (laws_FnExactForced.j0 k l1 t312 t315 t316 t322 bt325.1 bt325.2.1 bt325.2.2 (bt325.2.2 != t316) a0_0 l0_1 t317 t318)) else (laws_FnExactForced.j0 k l1 t312 t315 t316 t322 bt325.1 bt325.2.1 bt325.2.2 true a0_0 l0_1 t317 t318))))) = some true := H
      have A13 := Aside0.mk A130
      clear A130
      replace H := Option.bind_eq_some_iff.mp H
      obtain ⟨t322, A140, H⟩ := H
      replace H : ((impl_Forced.f k t317 t318 t322).bind fun bt325 => ((laws_eqIntS.f k bt325.1 t312).bind fun t330 => (if t330 = true then (if (bt325.2.1 != t315) = true then (laws_FnExactForced.j0 k l1 t312 t315 t316 t322 bt325.1 bt325.2.1 bt325.2.2 true a0_0 l0_1 t317 t318) else (laws_FnExactForced.j0 k l1 t312 t315 t316 t322 bt325.1 bt325.2.1 bt325.2.2 (bt325.2.2 != t316) a0_0 l0_1 t317 t318)) else (laws_FnExactForced.j0 k l1 t312 t315 t316 t322 bt325.1 bt325.2.1 bt325.2.2 true a0_0 l0_1 t317 t318)))) = some true := H
      have A14 := Aside0.mk A140
      clear A140
      replace H := Option.bind_eq_some_iff.mp H
      obtain ⟨⟨t325, t328, t329⟩, A150, H⟩ := H
      replace H : ((laws_eqIntS.f k t325 t312).bind fun t330 => (if t330 = true then (if (t328 != t315) = true then (laws_FnExactForced.j0 k l1 t312 t315 t316 t322 t325 t328 t329 true a0_0 l0_1 t317 t318) else (laws_FnExactForced.j0 k l1 t312 t315 t316 t322 t325 t328 t329 (t329 != t316) a0_0 l0_1 t317 t318)) else (laws_FnExactForced.j0 k l1 t312 t315 t316 t322 t325 t328 t329 true a0_0 l0_1 t317 t318))) = some true := H
      have A15 := Aside0.mk A150
      clear A150
      have HC16 := Aside0.mk H
      clear H
      go_enter Try.func6, Try.ntmps6
      go_upto_region 11 with (first | ((with_reducible refine gate_dst (N := 2) rfl ?_); refine box_event ?hg (N := 2) ?hd (cs := #[.int .i64 a0_0, .slice A0_1 l0_1.length c0_1]) (t := 24) ?hr ?_; (case hd => rfl); (case hg => rfl); (case hr => first | (go_simp; done) | (go_simp; rfl)); intro gb303 hg w17 hbox hb; have n0_ := Aside0.mk (below_step (qB) hb); have n1_ := Aside0.mk (hbox); have n2_ := Aside0.mk ((by rw [hg]; exact (below_size (qB)) : w.heap.size ≤ gb303)); have n3_ := Aside0.mk ((by rw [hg]; exact (below_size (qB)) : w.heap.size ≤ gb303)); clear HB; have HB := n0_; have BK303 := n1_; have GW303 := n2_; have GE303 := n3_; clear n0_ n1_ n2_ n3_; clear hb hbox hg; have hcz18_0 : w17.cell? ⟨gb303, 0, none⟩ = some (.int .i64 a0_0) := (blk_cell BK303.out 0).trans rfl; have hcz18_1 : w17.cell? ⟨gb303, 1, none⟩ = some (.slice A0_1 l0_1.length c0_1) := (blk_cell BK303.out 1).trans rfl; have hfz18_0 := blk_frozen BK303.out 0; have hfz18_1 := blk_frozen BK303.out 1) | ((with_reducible refine gate_callee (f := 9) rfl ?_); refine goesL_ (some 25) rfl rfl Try.func9 (by kernel_rfl) rfl #[.agg #[.int .i64 a0_0, .slice A0_1 l0_1.length c0_1], .int .i64 1048576] rfl qG ?_; (with_reducible refine (laws_szCnf.calls k a0_0 _ _ l0_1 1048576 t304 _ ?side1 ?side2 A5.out).mono ?_); (case side1 => exact qC (Kd.C_below HR0_1.out HB.out)); (case side2 => exact HC0_1.out); rintro e w19 ⟨rfl, hb⟩; refine ⟨_, rfl, ?_⟩; have n0_ := Aside0.mk (blk_below (g := gb303) (o := .cells #[.int .i64 a0_0, .slice A0_1 l0_1.length c0_1] 24 (0, 0)) (qK BK303.out) hb); have n1_ := Aside0.mk (below_step (qB) hb); clear BK303; clear HB; have BK303 := n0_; have HB := n1_; clear n0_ n1_; (try clear hb); (try clear hb2); (try clear hk); (try clear hi); have hcz20_0 : w19.cell? ⟨gb303, 0, none⟩ = some (.int .i64 a0_0) := (blk_cell BK303.out 0).trans rfl; have hcz20_1 : w19.cell? ⟨gb303, 1, none⟩ = some (.slice A0_1 l0_1.length c0_1) := (blk_cell BK303.out 1).trans rfl; have hfz20_0 := blk_frozen BK303.out 0; have hfz20_1 := blk_frozen BK303.out 1) | ((with_reducible refine gate_callee (f := 11) rfl ?_); refine goesL_ (some 30) rfl rfl Try.func11 (by kernel_rfl) rfl #[.agg #[.int .i64 a0_0, .slice A0_1 l0_1.length c0_1]] rfl qG ?_; (with_reducible refine (laws_toCnf.calls k a0_0 _ _ l0_1 t305 t306 _ ?side1 ?side2 A10.out).mono ?_); (case side1 => exact qC (Kd.C_below HR0_1.out HB.out)); (case side2 => exact HC0_1.out); rintro e w21 ⟨v307, rfl, ho0, hb⟩; refine ⟨_, rfl, ?_⟩; have n0_ := Aside0.mk (Kd.S_lower ho0 (below_size (qB))); have n1_ := Aside0.mk (blk_below (g := gb303) (o := .cells #[.int .i64 a0_0, .slice A0_1 l0_1.length c0_1] 24 (0, 0)) (qK BK303.out) hb); have n2_ := Aside0.mk (below_step (qB) hb); clear BK303; clear HB; have HO308 := n0_; have BK303 := n1_; have HB := n2_; clear n0_ n1_ n2_; (try clear hb); (try clear hb2); (try clear hk); (try clear hi); (try clear ho0)) | ((with_reducible refine gate_callee (f := 21) rfl ?_); refine goesL_ (some 32) rfl rfl Try.func21 (by kernel_rfl) rfl #[.slice A1 l1.length c1] rfl qG ?_; (with_reducible refine (laws_toIntS.calls k _ _ l1 t309 _ ?side1 ?side2 A11.out).mono ?_); (case side1 => exact qC (Kd.C_below HR1.out HB.out)); (case side2 => exact HC1.out); rintro e w22 ⟨v310, rfl, ho0, hb⟩; refine ⟨_, rfl, ?_⟩; have n0_ := Aside0.mk (Kd.S_elder' (by (with_reducible repeat (first | apply Kd.S_alloc | apply Kd.S_drewN | apply Kd.S_drew)); exact HO308.out) (Kd.R_base ho0) hb); have n1_ := Aside0.mk (Kd.R_lower ho0 (below_size (qB))); have n2_ := Aside0.mk (blk_below (g := gb303) (o := .cells #[.int .i64 a0_0, .slice A0_1 l0_1.length c0_1] 24 (0, 0)) (qK BK303.out) hb); have n3_ := Aside0.mk (below_step (qB) hb); clear HO308; clear BK303; clear HB; have HO308 := n0_; have HO311 := n1_; have BK303 := n2_; have HB := n3_; clear n0_ n1_ n2_ n3_; (try clear hb); (try clear hb2); (try clear hk); (try clear hi); (try clear ho0); obtain ⟨Ao23, co23, eo23⟩ := Kd.S_slice HO308.out; subst eo23; obtain ⟨Ao24, co24, eo24⟩ := Kd.R_slice HO311.out; subst eo24) | ((with_reducible refine gate_callee (f := 20) rfl ?_); refine goesL_ (some 33) rfl rfl Try.func20 (by kernel_rfl) rfl #[.agg #[.int .i64 t305, .slice Ao23 t306.length co23], .slice Ao24 t309.length co24] rfl qG ?_; (with_reducible refine (spec_Forced.calls k t305 _ _ t306 _ _ t309 t312 t315 t316 _ ?side1 ?side2 ?side3 ?side4 A12.out).mono ?_); (case side1 => repeat (first | exact (Kd.S_reads' HO308.out).2.2 | (with_reducible refine Kd.C_alloc ?_ _) | (with_reducible refine Kd.C_drewN ?_ _) | (with_reducible refine Kd.C_drew ?_))); (case side2 => exact (Kd.S_reads' HO308.out).2.1); (case side3 => repeat (first | exact (Kd.R_reads' HO311.out).2.2 | (with_reducible refine Kd.C_alloc ?_ _) | (with_reducible refine Kd.C_drewN ?_ _) | (with_reducible refine Kd.C_drew ?_))); (case side4 => exact (Kd.R_reads' HO311.out).2.1); rintro e w25 ⟨v313, rfl, ho0, hb⟩; refine ⟨_, rfl, ?_⟩; have n0_ := Aside0.mk (Kd.S_elder' (by (with_reducible repeat (first | apply Kd.S_alloc | apply Kd.S_drewN | apply Kd.S_drew)); exact HO308.out) (Kd.R_base ho0) hb); have n1_ := Aside0.mk (Kd.R_elder' (qR HO311.out) (Kd.R_base ho0) hb); have n2_ := Aside0.mk (Kd.R_lower (Kd.R_new' ho0 (Kd.R_lt (qR HO311.out))) (below_size (qB))); have n3_ := Aside0.mk (blk_below (g := gb303) (o := .cells #[.int .i64 a0_0, .slice A0_1 l0_1.length c0_1] 24 (0, 0)) (qK BK303.out) hb); have n4_ := Aside0.mk (below_step (qB) hb); clear HO308; clear HO311; clear BK303; clear HB; have HO308 := n0_; have HO311 := n1_; have HO314 := n2_; have BK303 := n3_; have HB := n4_; clear n0_ n1_ n2_ n3_ n4_; (try clear hb); (try clear hb2); (try clear hk); (try clear hi); (try clear ho0); have hcz26_0 : w25.cell? ⟨gb303, 0, none⟩ = some (.int .i64 a0_0) := (blk_cell BK303.out 0).trans rfl; have hcz26_1 : w25.cell? ⟨gb303, 1, none⟩ = some (.slice A0_1 l0_1.length c0_1) := (blk_cell BK303.out 1).trans rfl; have hfz26_0 := blk_frozen BK303.out 0; have hfz26_1 := blk_frozen BK303.out 1) | ((with_reducible refine gate_callee (f := 11) rfl ?_); refine goesL_ (some 38) rfl rfl Try.func11 (by kernel_rfl) rfl #[.agg #[.int .i64 a0_0, .slice A0_1 l0_1.length c0_1]] rfl qG ?_; (with_reducible refine (laws_toCnf.calls k a0_0 _ _ l0_1 t317 t318 _ ?side1 ?side2 A13.out).mono ?_); (case side1 => exact qC (Kd.C_below HR0_1.out HB.out)); (case side2 => exact HC0_1.out); rintro e w27 ⟨v319, rfl, ho0, hb⟩; refine ⟨_, rfl, ?_⟩; have n0_ := Aside0.mk (Kd.S_elder' (by (with_reducible repeat (first | apply Kd.S_alloc | apply Kd.S_drewN | apply Kd.S_drew)); exact HO308.out) (Kd.S_base ho0) hb); have n1_ := Aside0.mk (Kd.R_below (qR HO311.out) hb); have n2_ := Aside0.mk (Kd.R_below (qR HO314.out) hb); have n3_ := Aside0.mk (Kd.S_lower (Kd.S_new' (Kd.S_new' (Kd.S_new' ho0 (Kd.S_lt (by (with_reducible repeat (first | apply Kd.S_alloc | apply Kd.S_drewN | apply Kd.S_drew)); exact HO308.out))) (Kd.R_lt (qR HO311.out))) (Kd.R_lt (qR HO314.out))) (below_size (qB))); have n4_ := Aside0.mk (blk_below (g := gb303) (o := .cells #[.int .i64 a0_0, .slice A0_1 l0_1.length c0_1] 24 (0, 0)) (qK BK303.out) hb); have n5_ := Aside0.mk (below_step (qB) hb); clear HO308; clear HO311; clear HO314; clear BK303; clear HB; have HO308 := n0_; have HO311 := n1_; have HO314 := n2_; have HO320 := n3_; have BK303 := n4_; have HB := n5_; clear n0_ n1_ n2_ n3_ n4_ n5_; (try clear hb); (try clear hb2); (try clear hk); (try clear hi); (try clear ho0)) | ((with_reducible refine gate_dst (N := 9) rfl ?_); refine box_event ?hg (N := 9) ?hd (cs := #[.int .i64 0, .slice none 0 0]) (t := 27) ?hr ?_; (case hd => rfl); (case hg => rfl); (case hr => first | (go_simp; done) | (go_simp; rfl)); intro gb321 hg w28 hbox hb; have n0_ := Aside0.mk (Kd.S_below (by (with_reducible repeat (first | apply Kd.S_alloc | apply Kd.S_drewN | apply Kd.S_drew)); exact HO308.out) hb); have n1_ := Aside0.mk (Kd.R_below (qR HO311.out) hb); have n2_ := Aside0.mk (Kd.R_below (qR HO314.out) hb); have n3_ := Aside0.mk (Kd.S_below (by (with_reducible repeat (first | apply Kd.S_alloc | apply Kd.S_drewN | apply Kd.S_drew)); exact HO320.out) hb); have n4_ := Aside0.mk (blk_below (g := gb303) (o := .cells #[.int .i64 a0_0, .slice A0_1 l0_1.length c0_1] 24 (0, 0)) (qK BK303.out) hb); have n5_ := Aside0.mk (below_step (qB) hb); have n6_ := Aside0.mk (hbox); have n7_ := Aside0.mk ((by rw [hg]; exact (below_size (qB)) : w.heap.size ≤ gb321)); have n8_ := Aside0.mk ((by rw [hg]; exact (below_size (qB)) : w.heap.size ≤ gb321)); have n9_ := Aside0.mk ((by rw [hg]; exact Nat.ne_of_lt (blk_lt (g := gb303) (o := .cells #[.int .i64 a0_0, .slice A0_1 l0_1.length c0_1] 24 (0, 0)) (qK BK303.out)) : gb303 ≠ gb321)); have n10_ := Aside0.mk ((by rw [hg]; exact Nat.ne_of_gt (blk_lt (g := gb303) (o := .cells #[.int .i64 a0_0, .slice A0_1 l0_1.length c0_1] 24 (0, 0)) (qK BK303.out)) : gb321 ≠ gb303)); clear HO308; clear HO311; clear HO314; clear HO320; clear BK303; clear HB; have HO308 := n0_; have HO311 := n1_; have HO314 := n2_; have HO320 := n3_; have BK303 := n4_; have HB := n5_; have BK321 := n6_; have GW321 := n7_; have GE321 := n8_; have NB303_321 := n9_; have NB321_303 := n10_; clear n0_ n1_ n2_ n3_ n4_ n5_ n6_ n7_ n8_ n9_ n10_; clear hb hbox hg; have hnb29 := NB321_303.out; have hnc29 := NB303_321.out; have hcz30_0 : w28.cell? ⟨gb321, 0, none⟩ = some (.int .i64 0) := (blk_cell BK321.out 0).trans rfl; have hcz30_1 : w28.cell? ⟨gb321, 1, none⟩ = some (.slice none 0 0) := (blk_cell BK321.out 1).trans rfl; have hfz30_0 := blk_frozen BK321.out 0; have hfz30_1 := blk_frozen BK321.out 1; obtain ⟨Ao31, co31, eo31⟩ := Kd.S_slice HO320.out; subst eo31) | ((with_reducible refine gate_callee (f := 21) rfl ?_); refine goesL_ (some 40) rfl rfl Try.func21 (by kernel_rfl) rfl #[.slice A1 l1.length c1] rfl qG ?_; (with_reducible refine (laws_toIntS.calls k _ _ l1 t322 _ ?side1 ?side2 A14.out).mono ?_); (case side1 => exact Kd.C_below HR1.out (qB)); (case side2 => exact HC1.out); rintro e w32 ⟨v323, rfl, ho0, hb⟩; refine ⟨_, rfl, ?_⟩; have n0_ := Aside0.mk (Kd.S_elder' (by (with_reducible repeat (first | apply Kd.S_alloc | apply Kd.S_drewN | apply Kd.S_drew)); exact (Kd.S_mono (Kd.S_far (p := ⟨gb321, 1, none⟩) (Kd.S_far (p := ⟨gb321, 0, none⟩) (Kd.S_types HO308.out BK321.out (by decide)) (fun _ hk => hk.2) (.int .i64 t317)) (fun _ hk => hk.2) (.slice Ao31 t318.length co31)) (fun _ h_ => h_.1))) (Kd.R_base ho0) hb); have n1_ := Aside0.mk (Kd.R_elder' (by (with_reducible repeat (first | apply Kd.R_alloc | apply Kd.R_drewN | apply Kd.R_drew)); exact (Kd.R_mono (Kd.R_far (p := ⟨gb321, 1, none⟩) (Kd.R_far (p := ⟨gb321, 0, none⟩) (Kd.R_types HO311.out BK321.out (by decide)) (fun _ hk => hk.2) (.int .i64 t317)) (fun _ hk => hk.2) (.slice Ao31 t318.length co31)) (fun _ h_ => h_.1))) (Kd.R_base ho0) hb); have n2_ := Aside0.mk (Kd.R_elder' (by (with_reducible repeat (first | apply Kd.R_alloc | apply Kd.R_drewN | apply Kd.R_drew)); exact (Kd.R_mono (Kd.R_far (p := ⟨gb321, 1, none⟩) (Kd.R_far (p := ⟨gb321, 0, none⟩) (Kd.R_types HO314.out BK321.out (by decide)) (fun _ hk => hk.2) (.int .i64 t317)) (fun _ hk => hk.2) (.slice Ao31 t318.length co31)) (fun _ h_ => h_.1))) (Kd.R_base ho0) hb); have n3_ := Aside0.mk (Kd.S_elder' (by (with_reducible repeat (first | apply Kd.S_alloc | apply Kd.S_drewN | apply Kd.S_drew)); exact (Kd.S_mono (Kd.S_far (p := ⟨gb321, 1, none⟩) (Kd.S_far (p := ⟨gb321, 0, none⟩) (Kd.S_types HO320.out BK321.out (by decide)) (fun _ hk => hk.2) (.int .i64 t317)) (fun _ hk => hk.2) (.slice Ao31 t318.length co31)) (fun _ h_ => h_.1))) (Kd.R_base ho0) hb); have n4_ := Aside0.mk (Kd.R_lower (Kd.R_new' (Kd.R_new' ho0 (Kd.R_lt (by (with_reducible repeat (first | apply Kd.R_alloc | apply Kd.R_drewN | apply Kd.R_drew)); exact (Kd.R_mono (Kd.R_far (p := ⟨gb321, 1, none⟩) (Kd.R_far (p := ⟨gb321, 0, none⟩) (Kd.R_types HO311.out BK321.out (by decide)) (fun _ hk => hk.2) (.int .i64 t317)) (fun _ hk => hk.2) (.slice Ao31 t318.length co31)) (fun _ h_ => h_.1))))) (Kd.R_lt (by (with_reducible repeat (first | apply Kd.R_alloc | apply Kd.R_drewN | apply Kd.R_drew)); exact (Kd.R_mono (Kd.R_far (p := ⟨gb321, 1, none⟩) (Kd.R_far (p := ⟨gb321, 0, none⟩) (Kd.R_types HO314.out BK321.out (by decide)) (fun _ hk => hk.2) (.int .i64 t317)) (fun _ hk => hk.2) (.slice Ao31 t318.length co31)) (fun _ h_ => h_.1))))) (below_size (qB))); have n5_ := Aside0.mk (blk_below (g := gb303) (o := .cells #[.int .i64 a0_0, .slice A0_1 l0_1.length c0_1] 24 (0, 0)) (qF BK303.out) hb); have n6_ := Aside0.mk (blk_below (g := gb321) (o := .cells #[.int .i64 t317, .slice Ao31 t318.length co31] 27 (0, 0)) (by (with_reducible repeat (first | refine blk_drewN ?_ _ | refine blk_drew ?_ | refine blk_alloc ?_ _)); refine blk_put (cs := #[.int .i64 t317, .slice none 0 0]) ?_ 1 _ rfl; (with_reducible repeat (first | refine blk_drewN ?_ _ | refine blk_drew ?_ | refine blk_alloc ?_ _)); refine blk_put (cs := #[.int .i64 0, .slice none 0 0]) ?_ 0 _ rfl; (with_reducible repeat (first | refine blk_drewN ?_ _ | refine blk_drew ?_ | refine blk_alloc ?_ _)); exact BK321.out) hb); have n7_ := Aside0.mk (below_step (qB) hb); clear HO308; clear HO311; clear HO314; clear HO320; clear BK303; clear BK321; clear HB; have HO308 := n0_; have HO311 := n1_; have HO314 := n2_; have HO320 := n3_; have HO324 := n4_; have BK303 := n5_; have BK321 := n6_; have HB := n7_; clear n0_ n1_ n2_ n3_ n4_ n5_ n6_ n7_; (try clear hb); (try clear hb2); (try clear hk); (try clear hi); (try clear ho0); have hcz33_0 : w32.cell? ⟨gb321, 0, none⟩ = some (.int .i64 t317) := (blk_cell BK321.out 0).trans rfl; have hcz33_1 : w32.cell? ⟨gb321, 1, none⟩ = some (.slice Ao31 t318.length co31) := (blk_cell BK321.out 1).trans rfl; have hfz33_0 := blk_frozen BK321.out 0; have hfz33_1 := blk_frozen BK321.out 1; obtain ⟨Ao34, co34, eo34⟩ := Kd.R_slice HO324.out; subst eo34) | ((with_reducible refine gate_callee (f := 22) rfl ?_); refine goesL_ (some 44) rfl rfl Try.func22 (by kernel_rfl) rfl #[.agg #[.int .i64 t317, .slice Ao31 t318.length co31], .slice Ao34 t322.length co34] rfl qG ?_; (with_reducible refine (impl_Forced.calls k t317 _ _ t318 _ _ t322 t325 t328 t329 _ ?side1 ?side2 ?side3 ?side4 A15.out).mono ?_); (case side1 => repeat (first | exact (Kd.S_reads' HO320.out).2.2 | (with_reducible refine Kd.C_alloc ?_ _) | (with_reducible refine Kd.C_drewN ?_ _) | (with_reducible refine Kd.C_drew ?_))); (case side2 => exact (Kd.S_reads' HO320.out).2.1); (case side3 => repeat (first | exact (Kd.R_reads' HO324.out).2.2 | (with_reducible refine Kd.C_alloc ?_ _) | (with_reducible refine Kd.C_drewN ?_ _) | (with_reducible refine Kd.C_drew ?_))); (case side4 => exact (Kd.R_reads' HO324.out).2.1); rintro e w35 ⟨v326, rfl, ho0, hb⟩; refine ⟨_, rfl, ?_⟩; have n0_ := Aside0.mk (Kd.S_elder' (by (with_reducible repeat (first | apply Kd.S_alloc | apply Kd.S_drewN | apply Kd.S_drew)); exact HO308.out) (Kd.R_base ho0) hb); have n1_ := Aside0.mk (Kd.R_elder' (qR HO311.out) (Kd.R_base ho0) hb); have n2_ := Aside0.mk (Kd.R_elder' (qR HO314.out) (Kd.R_base ho0) hb); have n3_ := Aside0.mk (Kd.S_elder' (by (with_reducible repeat (first | apply Kd.S_alloc | apply Kd.S_drewN | apply Kd.S_drew)); exact HO320.out) (Kd.R_base ho0) hb); have n4_ := Aside0.mk (Kd.R_elder' (qR HO324.out) (Kd.R_base ho0) hb); have n5_ := Aside0.mk (Kd.R_lower (Kd.R_new' (Kd.R_new' (Kd.R_new' ho0 (Kd.R_lt (qR HO311.out))) (Kd.R_lt (qR HO314.out))) (Kd.R_lt (qR HO324.out))) (below_size (qB))); have n6_ := Aside0.mk (blk_below (g := gb303) (o := .cells #[.int .i64 a0_0, .slice A0_1 l0_1.length c0_1] 24 (0, 0)) (qK BK303.out) hb); have n7_ := Aside0.mk (blk_below (g := gb321) (o := .cells #[.int .i64 t317, .slice Ao31 t318.length co31] 27 (0, 0)) (qK BK321.out) hb); have n8_ := Aside0.mk (below_step (qB) hb); clear HO308; clear HO311; clear HO314; clear HO320; clear HO324; clear BK303; clear BK321; clear HB; have HO308 := n0_; have HO311 := n1_; have HO314 := n2_; have HO320 := n3_; have HO324 := n4_; have HO327 := n5_; have BK303 := n6_; have BK321 := n7_; have HB := n8_; clear n0_ n1_ n2_ n3_ n4_ n5_ n6_ n7_ n8_; (try clear hb); (try clear hb2); (try clear hk); (try clear hi); (try clear ho0)))
      (try simp only [Act.put, List.setIfInBounds_toArray, List.set_cons_zero, List.set_cons_succ])
      go_cut [61] (fun v61 wc => ∃ (kq : Nat) (x61_15 : Bool), v61 = .bool x61_15 ∧ Aside0 (laws_FnExactForced.j0 kq l1 t312 t315 t316 t322 t325 t328 t329 x61_15 a0_0 l0_1 t317 t318 = some true) ∧ Aside0 (kq ≤ k) ∧ Aside0 (Kd.R (Kd.int .i64) 3 wc w.heap.size (fun k_ => some k_ ≠ ((.slice Ao34 t322.length co34) : Value).ownBlock ∧ some k_ ≠ (v326 : Value).ownBlock) v313 t312) ∧ Aside0 (Kd.R (Kd.int .i64) 3 wc w.heap.size (fun k_ => some k_ ≠ (v313 : Value).ownBlock ∧ some k_ ≠ (v326 : Value).ownBlock) (.slice Ao34 t322.length co34) t322) ∧ Aside0 (Kd.R (Kd.int .i64) 3 wc w.heap.size (fun k_ => some k_ ≠ (v313 : Value).ownBlock ∧ some k_ ≠ ((.slice Ao34 t322.length co34) : Value).ownBlock) v326 t325) ∧ Aside0 (Kd.S (Kd.slice 3 (Kd.int .i64)) 39 wc w.heap.size (fun k_ => some k_ ≠ (v313 : Value).ownBlock ∧ some k_ ≠ ((.slice Ao34 t322.length co34) : Value).ownBlock ∧ some k_ ≠ (v326 : Value).ownBlock) (.slice Ao31 t318.length co31) t318) ∧ Aside0 (wc.heap[gb303]? = some (.cells #[.int .i64 a0_0, (.slice A0_1 l0_1.length c0_1)] 24 (0, 0))) ∧ Aside0 (wc.heap[gb321]? = some (.cells #[.int .i64 t317, (.slice Ao31 t318.length co31)] 27 (0, 0))) ∧ Aside0 (Below w.heap.size w wc))
      case first =>
        have H := HC16.out
        clear HC16
        replace H := Option.bind_eq_some_iff.mp H
        obtain ⟨t330, A360, H⟩ := H
        replace H : (if t330 = true then (if (t328 != t315) = true then (laws_FnExactForced.j0 k l1 t312 t315 t316 t322 t325 t328 t329 true a0_0 l0_1 t317 t318) else (laws_FnExactForced.j0 k l1 t312 t315 t316 t322 t325 t328 t329 (t329 != t316) a0_0 l0_1 t317 t318)) else (laws_FnExactForced.j0 k l1 t312 t315 t316 t322 t325 t328 t329 true a0_0 l0_1 t317 t318)) = some true := H
        have A36 := Aside0.mk A360
        clear A360
        by_cases c37 : t330 = true
        · subst c37
          have H1 : (if (t328 != t315) = true then (laws_FnExactForced.j0 k l1 t312 t315 t316 t322 t325 t328 t329 true a0_0 l0_1 t317 t318) else (laws_FnExactForced.j0 k l1 t312 t315 t316 t322 t325 t328 t329 (t329 != t316) a0_0 l0_1 t317 t318)) = some true := by rw [if_pos rfl] at H; exact H
          clear H
          have H := H1
          clear H1
          by_cases c38 : (t328 != t315) = true
          · rw [if_pos c38] at H
            exact absurd H (by cases k <;> simp [laws_FnExactForced.j0])
          · rw [if_neg c38] at H
            have c38b0 : (t328 != t315) = false := by simpa using c38
            (try (have c38b1 : decide (t328 = t315) = true := by simpa using c38))
            (try (have c38b2 : (t328 == t315) = true := by simpa using c38))
            clear c38
            (first | rw [c38b0] | (simp only [i64_w, i32_w]; rw [c38b0]) | skip)
            have H' := Aside0.mk H
            clear H
            obtain ⟨Ao41, co41, eo41⟩ := Kd.R_slice HO327.out
            subst eo41
            obtain ⟨Ao42, co42, eo42⟩ := Kd.R_slice HO314.out
            subst eo42
            go_wp2_with (first | ((with_reducible refine gate_callee (f := 23) rfl ?_); refine goesL_ (some 50) rfl rfl Try.func23 (by kernel_rfl) rfl #[.slice Ao41 t325.length co41, .slice Ao42 t312.length co42] rfl qG ?_; (with_reducible refine (laws_eqIntS.calls k _ _ t325 _ _ t312 true _ ?side1 ?side2 ?side3 ?side4 A36.out).mono ?_); (case side1 => repeat (first | exact (Kd.R_reads' HO327.out).2.2 | (with_reducible refine Kd.C_alloc ?_ _) | (with_reducible refine Kd.C_drewN ?_ _) | (with_reducible refine Kd.C_drew ?_))); (case side2 => exact (Kd.R_reads' HO327.out).2.1); (case side3 => repeat (first | exact (Kd.R_reads' HO314.out).2.2 | (with_reducible refine Kd.C_alloc ?_ _) | (with_reducible refine Kd.C_drewN ?_ _) | (with_reducible refine Kd.C_drew ?_))); (case side4 => exact (Kd.R_reads' HO314.out).2.1); rintro e w' ⟨rfl, ⟨nd, rfl⟩⟩; refine ⟨_, rfl, ?_⟩))
            go_meet
            case rel => exact ⟨_, ((t329 != t316)), qS, H', ⟨by first | omega | exact Nat.le_refl _⟩, ⟨by (with_reducible repeat (first | apply Kd.R_alloc | apply Kd.R_drewN | apply Kd.R_drew)); exact Kd.R_mono HO314.out (fun _ hk => ⟨hk.1.2, hk.2⟩)⟩, ⟨by (with_reducible repeat (first | apply Kd.R_alloc | apply Kd.R_drewN | apply Kd.R_drew)); exact Kd.R_mono HO324.out (fun _ hk => ⟨hk.1.2, hk.2⟩)⟩, ⟨by (with_reducible repeat (first | apply Kd.R_alloc | apply Kd.R_drewN | apply Kd.R_drew)); exact Kd.R_mono HO327.out (fun _ hk => ⟨hk.1.2, hk.2⟩)⟩, ⟨by (with_reducible repeat (first | apply Kd.S_alloc | apply Kd.S_drewN | apply Kd.S_drew)); exact Kd.S_mono HO320.out (fun _ hk => ⟨hk.1.1.2, ⟨hk.1.2, hk.2⟩⟩)⟩, ⟨by (with_reducible repeat (first | refine blk_drewN ?_ _ | refine blk_drew ?_ | refine blk_alloc ?_ _)); exact BK303.out⟩, ⟨by (with_reducible repeat (first | refine blk_drewN ?_ _ | refine blk_drew ?_ | refine blk_alloc ?_ _)); exact BK321.out⟩, ⟨qB⟩⟩
        · replace c37 := Bool.eq_false_iff.mpr c37
          subst c37
          have H1 : (laws_FnExactForced.j0 k l1 t312 t315 t316 t322 t325 t328 t329 true a0_0 l0_1 t317 t318) = some true := by rw [if_neg (show ¬ (false = true) by decide)] at H; exact H
          exact absurd H1 (by cases k <;> simp [laws_FnExactForced.j0])
      case rest =>
        clear HC16
        try clear c1
        try clear c2
        try clear p2
        try clear c3
        try clear c3b0
        try clear c3b1
        try clear c6
        try clear c6b0
        try clear c9
        try clear c11
        try clear c20
        try clear c21
        try clear c22
        try clear c23
        try clear c29
        try clear c37
        try clear c38
        try clear c38b0
        try clear c38b1
        try clear c38b2
        try clear hcz18_0
        try clear hcz18_1
        try clear hcz20_0
        try clear hcz20_1
        try clear hcz26_0
        try clear hcz26_1
        try clear hcz30_0
        try clear hcz30_1
        try clear hcz33_0
        try clear hcz33_1
        try clear hcz8_0
        try clear hcz8_1
        try clear hfz18_0
        try clear hfz18_1
        try clear hfz20_0
        try clear hfz20_1
        try clear hfz26_0
        try clear hfz26_1
        try clear hfz30_0
        try clear hfz30_1
        try clear hfz33_0
        try clear hfz33_1
        try clear hfz8_0
        try clear hfz8_1
        obtain ⟨kq, x61_15, rfl, HA, HJ15, HO_6, HO_10, HO_11, HO_322001, BK303, BK321, HB⟩ := hcut
        cases kq with
        | zero => exact absurd HA.out (by simp [laws_FnExactForced.j0])
        | succ kj15 =>
          have H := HA.out
          clear HA
          simp only [laws_FnExactForced.j0] at H
          by_cases c45 : x61_15 = true
          · subst c45
            have H1 : (some false) = some true := by rw [if_pos rfl] at H; exact H
            exact absurd H1 (by simp)
          · replace c45 := Bool.eq_false_iff.mpr c45
            subst c45
            have H1 : ((laws_toCnf.f kj15 a0_0 l0_1).bind fun bt331 => ((laws_eqCnf.f kj15 t317 t318 bt331.1 bt331.2).bind fun t335 => (if t335 = true then ((laws_toIntS.f kj15 l1).bind fun t336 => ((laws_eqIntS.f kj15 t322 t336).bind fun t339 => (if t339 = true then ((laws_markCnf.f t317 t318 1).bind fun t340 => ((laws_markIntS.f kj15 t322 t340).bind fun bt341 => (if bt341.1 < 0 then (laws_FnExactForced.j1 kj15 l1 t312 t315 t316 t325 true a0_0 l0_1) else ((laws_eqIntS.f kj15 t325 t312).bind fun t343 => (if t343 = true then (if (t328 != t315) = true then (laws_FnExactForced.j1 kj15 l1 t312 t315 t316 t325 true a0_0 l0_1) else (laws_FnExactForced.j1 kj15 l1 t312 t315 t316 t325 (t329 != t316) a0_0 l0_1)) else (laws_FnExactForced.j1 kj15 l1 t312 t315 t316 t325 true a0_0 l0_1)))))) else (some false)))) else (some false)))) = some true := by rw [if_neg (show ¬ (false = true) by decide)] at H; exact H
            clear H
            have H := H1
            clear H1
            replace H := Option.bind_eq_some_iff.mp H
            obtain ⟨⟨t331, t332⟩, A460, H⟩ := H
            replace H : ((laws_eqCnf.f kj15 t317 t318 t331 t332).bind fun t335 => (if t335 = true then ((laws_toIntS.f kj15 l1).bind fun t336 => ((laws_eqIntS.f kj15 t322 t336).bind fun t339 => (if t339 = true then ((laws_markCnf.f t317 t318 1).bind fun t340 => ((laws_markIntS.f kj15 t322 t340).bind fun bt341 => (if bt341.1 < 0 then (laws_FnExactForced.j1 kj15 l1 t312 t315 t316 t325 true a0_0 l0_1) else ((laws_eqIntS.f kj15 t325 t312).bind fun t343 => (if t343 = true then (if (t328 != t315) = true then (laws_FnExactForced.j1 kj15 l1 t312 t315 t316 t325 true a0_0 l0_1) else (laws_FnExactForced.j1 kj15 l1 t312 t315 t316 t325 (t329 != t316) a0_0 l0_1)) else (laws_FnExactForced.j1 kj15 l1 t312 t315 t316 t325 true a0_0 l0_1)))))) else (some false)))) else (some false))) = some true := H
            have A46 := Aside0.mk A460
            clear A460
            replace H := Option.bind_eq_some_iff.mp H
            obtain ⟨t335, A470, H⟩ := H
            replace H : (if t335 = true then ((laws_toIntS.f kj15 l1).bind fun t336 => ((laws_eqIntS.f kj15 t322 t336).bind fun t339 => (if t339 = true then ((laws_markCnf.f t317 t318 1).bind fun t340 => ((laws_markIntS.f kj15 t322 t340).bind fun bt341 => (if bt341.1 < 0 then (laws_FnExactForced.j1 kj15 l1 t312 t315 t316 t325 true a0_0 l0_1) else ((laws_eqIntS.f kj15 t325 t312).bind fun t343 => (if t343 = true then (if (t328 != t315) = true then (laws_FnExactForced.j1 kj15 l1 t312 t315 t316 t325 true a0_0 l0_1) else (laws_FnExactForced.j1 kj15 l1 t312 t315 t316 t325 (t329 != t316) a0_0 l0_1)) else (laws_FnExactForced.j1 kj15 l1 t312 t315 t316 t325 true a0_0 l0_1)))))) else (some false)))) else (some false)) = some true := H
            have A47 := Aside0.mk A470
            clear A470
            by_cases c48 : t335 = true
            · subst c48
              have H1 : ((laws_toIntS.f kj15 l1).bind fun t336 => ((laws_eqIntS.f kj15 t322 t336).bind fun t339 => (if t339 = true then ((laws_markCnf.f t317 t318 1).bind fun t340 => ((laws_markIntS.f kj15 t322 t340).bind fun bt341 => (if bt341.1 < 0 then (laws_FnExactForced.j1 kj15 l1 t312 t315 t316 t325 true a0_0 l0_1) else ((laws_eqIntS.f kj15 t325 t312).bind fun t343 => (if t343 = true then (if (t328 != t315) = true then (laws_FnExactForced.j1 kj15 l1 t312 t315 t316 t325 true a0_0 l0_1) else (laws_FnExactForced.j1 kj15 l1 t312 t315 t316 t325 (t329 != t316) a0_0 l0_1)) else (laws_FnExactForced.j1 kj15 l1 t312 t315 t316 t325 true a0_0 l0_1)))))) else (some false)))) = some true := by rw [if_pos rfl] at H; exact H
              clear H
              have H := H1
              clear H1
              replace H := Option.bind_eq_some_iff.mp H
              obtain ⟨t336, A490, H⟩ := H
              replace H : ((laws_eqIntS.f kj15 t322 t336).bind fun t339 => (if t339 = true then ((laws_markCnf.f t317 t318 1).bind fun t340 => ((laws_markIntS.f kj15 t322 t340).bind fun bt341 => (if bt341.1 < 0 then (laws_FnExactForced.j1 kj15 l1 t312 t315 t316 t325 true a0_0 l0_1) else ((laws_eqIntS.f kj15 t325 t312).bind fun t343 => (if t343 = true then (if (t328 != t315) = true then (laws_FnExactForced.j1 kj15 l1 t312 t315 t316 t325 true a0_0 l0_1) else (laws_FnExactForced.j1 kj15 l1 t312 t315 t316 t325 (t329 != t316) a0_0 l0_1)) else (laws_FnExactForced.j1 kj15 l1 t312 t315 t316 t325 true a0_0 l0_1)))))) else (some false))) = some true := H
              have A49 := Aside0.mk A490
              clear A490
              replace H := Option.bind_eq_some_iff.mp H
              obtain ⟨t339, A500, H⟩ := H
              replace H : (if t339 = true then ((laws_markCnf.f t317 t318 1).bind fun t340 => ((laws_markIntS.f kj15 t322 t340).bind fun bt341 => (if bt341.1 < 0 then (laws_FnExactForced.j1 kj15 l1 t312 t315 t316 t325 true a0_0 l0_1) else ((laws_eqIntS.f kj15 t325 t312).bind fun t343 => (if t343 = true then (if (t328 != t315) = true then (laws_FnExactForced.j1 kj15 l1 t312 t315 t316 t325 true a0_0 l0_1) else (laws_FnExactForced.j1 kj15 l1 t312 t315 t316 t325 (t329 != t316) a0_0 l0_1)) else (laws_FnExactForced.j1 kj15 l1 t312 t315 t316 t325 true a0_0 l0_1)))))) else (some false)) = some true := H
              have A50 := Aside0.mk A500
              clear A500
              by_cases c51 : t339 = true
              · subst c51
                have H1 : ((laws_markCnf.f t317 t318 1).bind fun t340 => ((laws_markIntS.f kj15 t322 t340).bind fun bt341 => (if bt341.1 < 0 then (laws_FnExactForced.j1 kj15 l1 t312 t315 t316 t325 true a0_0 l0_1) else ((laws_eqIntS.f kj15 t325 t312).bind fun t343 => (if t343 = true then (if (t328 != t315) = true then (laws_FnExactForced.j1 kj15 l1 t312 t315 t316 t325 true a0_0 l0_1) else (laws_FnExactForced.j1 kj15 l1 t312 t315 t316 t325 (t329 != t316) a0_0 l0_1)) else (laws_FnExactForced.j1 kj15 l1 t312 t315 t316 t325 true a0_0 l0_1)))))) = some true := by rw [if_pos rfl] at H; exact H
                clear H
                have H := H1
                clear H1
                replace H := Option.bind_eq_some_iff.mp H
                obtain ⟨t340, A520, H⟩ := H
                replace H : ((laws_markIntS.f kj15 t322 t340).bind fun bt341 => (if bt341.1 < 0 then (laws_FnExactForced.j1 kj15 l1 t312 t315 t316 t325 true a0_0 l0_1) else ((laws_eqIntS.f kj15 t325 t312).bind fun t343 => (if t343 = true then (if (t328 != t315) = true then (laws_FnExactForced.j1 kj15 l1 t312 t315 t316 t325 true a0_0 l0_1) else (laws_FnExactForced.j1 kj15 l1 t312 t315 t316 t325 (t329 != t316) a0_0 l0_1)) else (laws_FnExactForced.j1 kj15 l1 t312 t315 t316 t325 true a0_0 l0_1))))) = some true := H
                have A52 := Aside0.mk A520
                clear A520
                replace H := Option.bind_eq_some_iff.mp H
                obtain ⟨⟨t341, t342⟩, A530, H⟩ := H
                replace H : (if t341 < 0 then (laws_FnExactForced.j1 kj15 l1 t312 t315 t316 t325 true a0_0 l0_1) else ((laws_eqIntS.f kj15 t325 t312).bind fun t343 => (if t343 = true then (if (t328 != t315) = true then (laws_FnExactForced.j1 kj15 l1 t312 t315 t316 t325 true a0_0 l0_1) else (laws_FnExactForced.j1 kj15 l1 t312 t315 t316 t325 (t329 != t316) a0_0 l0_1)) else (laws_FnExactForced.j1 kj15 l1 t312 t315 t316 t325 true a0_0 l0_1)))) = some true := H
                have A53 := Aside0.mk A530
                clear A530
                have HC54 := Aside0.mk H
                clear H
                try go_wp2
                have n0_ := Aside0.mk (Kd.R_drew HO_6.out)
                have n1_ := Aside0.mk (Kd.R_drew HO_10.out)
                have n2_ := Aside0.mk (Kd.R_drew HO_11.out)
                have n3_ := Aside0.mk (Kd.S_drew HO_322001.out)
                have n4_ := Aside0.mk (blk_drew BK303.out)
                have n5_ := Aside0.mk (blk_drew BK321.out)
                have n6_ := Aside0.mk (below_drew1 HB.out)
                clear HO_6
                clear HO_10
                clear HO_11
                clear HO_322001
                clear BK303
                clear BK321
                clear HB
                have HO_6 := n0_
                have HO_10 := n1_
                have HO_11 := n2_
                have HO_322001 := n3_
                have BK303 := n4_
                have BK321 := n5_
                have HB := n6_
                clear n0_ n1_ n2_ n3_ n4_ n5_ n6_
                refine start_ (n := 5) (S := fun w' => w'.cell? ⟨gb321, 0, none⟩ = some (.int .i64 t317) ∧ w'.cell? ⟨gb321, 1, none⟩ = some (.slice Ao31 t318.length co31) ∧ w'.cell? ⟨gb303, 0, none⟩ = some (.int .i64 a0_0) ∧ w'.cell? ⟨gb303, 1, none⟩ = some (.slice A0_1 l0_1.length c0_1)) (ds := []) #[false, false, false, false, false] (by kernel_rfl) rfl rfl ⟨(blk_cell BK321.out 0).trans rfl, (blk_cell BK321.out 1).trans rfl, (blk_cell BK303.out 0).trans rfl, (blk_cell BK303.out 1).trans rfl⟩ (fun hHeld => ?_)
                generalize wc.drew = w55 at HO_6 HO_10 HO_11 HO_322001 BK303 BK321 HB hHeld ⊢
                refine take_ (i := 0) (N := some 62) (v := ?_) (a' := ?_) #[true, false, false, false, false] rfl rfl (by kernel_rfl) (fun _ _ _ h => h) (Or.inl ⟨by rfl, ?_⟩) hHeld ?_ ?_
                rotate_left
                · rintro w' ⟨s0, s1, s2, s3⟩
                  go_simp
                  with_reducible rfl
                rotate_left
                · simp only [Act.put, List.setIfInBounds_toArray, List.set_cons_zero, List.set_cons_succ, i64_w, i32_w]
                  rfl
                refine take_ (i := 1) (N := some 63) (v := ?_) (a' := ?_) #[true, true, false, false, false] rfl rfl (by kernel_rfl) (fun _ _ _ h => h) (Or.inl ⟨by rfl, ?_⟩) hHeld ?_ ?_
                rotate_left
                · rintro w' ⟨s0, s1, s2, s3⟩
                  go_simp
                  with_reducible rfl
                rotate_left
                · simp only [Act.put, List.setIfInBounds_toArray, List.set_cons_zero, List.set_cons_succ, i64_w, i32_w]
                  rfl
                refine one_ (i := 2) (N := some 64) #[true, true, true, false, false] rfl rfl (by kernel_rfl) (by decide) (fun K hK => ?_)
                refine goes_ Try.func11 (by kernel_rfl) rfl #[.agg #[.int .i64 a0_0, .slice A0_1 l0_1.length c0_1]] (by rfl) rfl rfl qG ?_
                with_reducible refine (laws_toCnf.calls kj15 a0_0 _ _ l0_1 t331 t332 _ ?side1 ?side2 A46.out).mono ?_
                (case side1 => exact qC (Kd.C_below HR0_1.out HB.out))
                (case side2 => exact HC0_1.out)
                rintro e w56 ⟨v333, rfl, ho0, hb⟩
                refine ⟨_, rfl, ?_⟩
                have n0_ := Aside0.mk (Kd.R_below (qR HO_6.out) hb)
                have n1_ := Aside0.mk (Kd.R_below (qR HO_10.out) hb)
                have n2_ := Aside0.mk (Kd.R_below (qR HO_11.out) hb)
                have n3_ := Aside0.mk (Kd.S_elder' (by (with_reducible repeat (first | apply Kd.S_alloc | apply Kd.S_drewN | apply Kd.S_drew)); exact HO_322001.out) (Kd.S_base ho0) hb)
                have n4_ := Aside0.mk (Kd.S_lower (Kd.S_new' (Kd.S_new' (Kd.S_new' (Kd.S_new' ho0 (Kd.R_lt (qR HO_6.out))) (Kd.R_lt (qR HO_10.out))) (Kd.R_lt (qR HO_11.out))) (Kd.S_lt (by (with_reducible repeat (first | apply Kd.S_alloc | apply Kd.S_drewN | apply Kd.S_drew)); exact HO_322001.out))) (below_size (qB)))
                have n5_ := Aside0.mk (blk_below (g := gb303) (o := .cells #[.int .i64 a0_0, .slice A0_1 l0_1.length c0_1] 24 (0, 0)) (qK BK303.out) hb)
                have n6_ := Aside0.mk (blk_below (g := gb321) (o := .cells #[.int .i64 t317, .slice Ao31 t318.length co31] 27 (0, 0)) (qK BK321.out) hb)
                have n7_ := Aside0.mk (below_step (qB) hb)
                clear HO_6
                clear HO_10
                clear HO_11
                clear HO_322001
                clear BK303
                clear BK321
                clear HB
                have HO_6 := n0_
                have HO_10 := n1_
                have HO_11 := n2_
                have HO_322001 := n3_
                have HO334 := n4_
                have BK303 := n5_
                have BK321 := n6_
                have HB := n7_
                clear n0_ n1_ n2_ n3_ n4_ n5_ n6_ n7_
                (try clear hb)
                (try clear hb2)
                (try clear hk)
                (try clear hi)
                (try clear ho0)
                obtain ⟨Ao57, co57, eo57⟩ := Kd.S_slice HO334.out
                (first | subst eo57 | (injection eo57 with f1_ f2_ f3_; have f4_ := f1_.symm; have f5_ := f3_.symm; clear f1_ f2_ f3_; subst f4_; subst f5_))
                refine hK.out _ _ ⟨(blk_cell BK321.out 0).trans rfl, (blk_cell BK321.out 1).trans rfl, (blk_cell BK303.out 0).trans rfl, (blk_cell BK303.out 1).trans rfl⟩ (fun hHeld => ?_)
                clear hK K
                refine norm_ (a' := ?_) ?_ ?_
                rotate_left
                · show Act.put _ (some 64) _ = _
                  simp only [Act.put, List.setIfInBounds_toArray, List.set_cons_zero, List.set_cons_succ, i64_w, i32_w]
                  rfl
                refine one_ (i := 3) (N := some 65) #[true, true, true, true, false] rfl rfl (by kernel_rfl) (by decide) (fun K hK => ?_)
                refine goes_ Try.func13 (by kernel_rfl) rfl #[.agg #[.int .i64 t317, .slice Ao31 t318.length co31], .agg #[.int .i64 t331, .slice Ao57 t332.length co57]] (by rfl) rfl rfl qG ?_
                with_reducible refine (laws_eqCnf.calls kj15 t317 _ _ t318 t331 _ _ t332 true _ ?side1 ?side2 ?side3 ?side4 A47.out).mono ?_
                (case side1 => repeat (first | exact (Kd.S_reads' HO_322001.out).2.2 | (with_reducible refine Kd.C_alloc ?_ _) | (with_reducible refine Kd.C_drewN ?_ _) | (with_reducible refine Kd.C_drew ?_)))
                (case side2 => exact (Kd.S_reads' HO_322001.out).2.1)
                (case side3 => repeat (first | exact (Kd.S_reads' HO334.out).2.2 | (with_reducible refine Kd.C_alloc ?_ _) | (with_reducible refine Kd.C_drewN ?_ _) | (with_reducible refine Kd.C_drew ?_)))
                (case side4 => exact (Kd.S_reads' HO334.out).2.1)
                rintro e w58 ⟨rfl, hb⟩
                refine ⟨_, rfl, ?_⟩
                have n0_ := Aside0.mk (Kd.R_below (qR HO_6.out) hb)
                have n1_ := Aside0.mk (Kd.R_below (qR HO_10.out) hb)
                have n2_ := Aside0.mk (Kd.R_below (qR HO_11.out) hb)
                have n3_ := Aside0.mk (Kd.S_below (by (with_reducible repeat (first | apply Kd.S_alloc | apply Kd.S_drewN | apply Kd.S_drew)); exact HO_322001.out) hb)
                have n4_ := Aside0.mk (Kd.S_below (by (with_reducible repeat (first | apply Kd.S_alloc | apply Kd.S_drewN | apply Kd.S_drew)); exact HO334.out) hb)
                have n5_ := Aside0.mk (blk_below (g := gb303) (o := .cells #[.int .i64 a0_0, .slice A0_1 l0_1.length c0_1] 24 (0, 0)) (qK BK303.out) hb)
                have n6_ := Aside0.mk (blk_below (g := gb321) (o := .cells #[.int .i64 t317, .slice Ao31 t318.length co31] 27 (0, 0)) (qK BK321.out) hb)
                have n7_ := Aside0.mk (below_step (qB) hb)
                clear HO_6
                clear HO_10
                clear HO_11
                clear HO_322001
                clear HO334
                clear BK303
                clear BK321
                clear HB
                have HO_6 := n0_
                have HO_10 := n1_
                have HO_11 := n2_
                have HO_322001 := n3_
                have HO334 := n4_
                have BK303 := n5_
                have BK321 := n6_
                have HB := n7_
                clear n0_ n1_ n2_ n3_ n4_ n5_ n6_ n7_
                (try clear hb)
                (try clear hb2)
                (try clear hk)
                (try clear hi)
                refine hK.out _ _ ⟨(blk_cell BK321.out 0).trans rfl, (blk_cell BK321.out 1).trans rfl, (blk_cell BK303.out 0).trans rfl, (blk_cell BK303.out 1).trans rfl⟩ (fun hHeld => ?_)
                clear hK K
                refine norm_ (a' := ?_) ?_ ?_
                rotate_left
                · show Act.put _ (some 65) _ = _
                  simp only [Act.put, List.setIfInBounds_toArray, List.set_cons_zero, List.set_cons_succ, i64_w, i32_w]
                  rfl
                refine pure_ (i := 4) (N := some 66) (v := ?_) (a' := ?_) #[true, true, true, true, true] rfl rfl (by kernel_rfl) (fun _ _ _ h => h) (Or.inl ⟨by rfl, ?_⟩) ?_ ?_
                rotate_left
                · intro w'
                  go_simp
                  with_reducible rfl
                rotate_left
                · simp only [Act.put, List.setIfInBounds_toArray, List.set_cons_zero, List.set_cons_succ, i64_w, i32_w]
                  rfl
                refine done_ (by kernel_rfl) ?_
                go_upto_region 20 with (first | ((with_reducible refine gate_callee (f := 21) rfl ?_); refine goesL_ (some 69) rfl rfl Try.func21 (by kernel_rfl) rfl #[.slice A1 l1.length c1] rfl qG ?_; (with_reducible refine (laws_toIntS.calls kj15 _ _ l1 t336 _ ?side1 ?side2 A49.out).mono ?_); (case side1 => exact qC (Kd.C_below HR1.out HB.out)); (case side2 => exact HC1.out); rintro e w59 ⟨v337, rfl, ho0, hb⟩; refine ⟨_, rfl, ?_⟩; have n0_ := Aside0.mk (Kd.R_elder' (qR HO_6.out) (Kd.R_base ho0) hb); have n1_ := Aside0.mk (Kd.R_elder' (qR HO_10.out) (Kd.R_base ho0) hb); have n2_ := Aside0.mk (Kd.R_elder' (qR HO_11.out) (Kd.R_base ho0) hb); have n3_ := Aside0.mk (Kd.S_elder' (by (with_reducible repeat (first | apply Kd.S_alloc | apply Kd.S_drewN | apply Kd.S_drew)); exact HO_322001.out) (Kd.R_base ho0) hb); have n4_ := Aside0.mk (Kd.S_elder' (by (with_reducible repeat (first | apply Kd.S_alloc | apply Kd.S_drewN | apply Kd.S_drew)); exact HO334.out) (Kd.R_base ho0) hb); have n5_ := Aside0.mk (Kd.R_lower (Kd.R_new' (Kd.R_new' (Kd.R_new' ho0 (Kd.R_lt (qR HO_6.out))) (Kd.R_lt (qR HO_10.out))) (Kd.R_lt (qR HO_11.out))) (below_size (qB))); have n6_ := Aside0.mk (blk_below (g := gb303) (o := .cells #[.int .i64 a0_0, .slice A0_1 l0_1.length c0_1] 24 (0, 0)) (qK BK303.out) hb); have n7_ := Aside0.mk (blk_below (g := gb321) (o := .cells #[.int .i64 t317, .slice Ao31 t318.length co31] 27 (0, 0)) (qK BK321.out) hb); have n8_ := Aside0.mk (below_step (qB) hb); clear HO_6; clear HO_10; clear HO_11; clear HO_322001; clear HO334; clear BK303; clear BK321; clear HB; have HO_6 := n0_; have HO_10 := n1_; have HO_11 := n2_; have HO_322001 := n3_; have HO334 := n4_; have HO338 := n5_; have BK303 := n6_; have BK321 := n7_; have HB := n8_; clear n0_ n1_ n2_ n3_ n4_ n5_ n6_ n7_ n8_; (try clear hb); (try clear hb2); (try clear hk); (try clear hi); (try clear ho0); obtain ⟨Ao60, co60, eo60⟩ := Kd.R_slice HO338.out; subst eo60) | ((with_reducible refine gate_callee (f := 23) rfl ?_); refine goesL_ (some 70) rfl rfl Try.func23 (by kernel_rfl) rfl #[.slice Ao34 t322.length co34, .slice Ao60 t336.length co60] rfl qG ?_; (with_reducible refine (laws_eqIntS.calls kj15 _ _ t322 _ _ t336 true _ ?side1 ?side2 ?side3 ?side4 A50.out).mono ?_); (case side1 => repeat (first | exact (Kd.R_reads' HO_10.out).2.2 | (with_reducible refine Kd.C_alloc ?_ _) | (with_reducible refine Kd.C_drewN ?_ _) | (with_reducible refine Kd.C_drew ?_))); (case side2 => exact (Kd.R_reads' HO_10.out).2.1); (case side3 => repeat (first | exact (Kd.R_reads' HO338.out).2.2 | (with_reducible refine Kd.C_alloc ?_ _) | (with_reducible refine Kd.C_drewN ?_ _) | (with_reducible refine Kd.C_drew ?_))); (case side4 => exact (Kd.R_reads' HO338.out).2.1); rintro e w' ⟨rfl, ⟨nd, rfl⟩⟩; refine ⟨_, rfl, ?_⟩; have hnb61 := NB321_303.out; have hnc61 := NB303_321.out; have hcz62_0 : w59.cell? ⟨gb321, 0, none⟩ = some (.int .i64 t317) := (blk_cell BK321.out 0).trans rfl; have hcz62_1 : w59.cell? ⟨gb321, 1, none⟩ = some (.slice Ao31 t318.length co31) := (blk_cell BK321.out 1).trans rfl; have hfz62_0 := blk_frozen BK321.out 0; have hfz62_1 := blk_frozen BK321.out 1) | ((with_reducible refine gate_callee (f := 24) rfl ?_); refine goesL_ (some 74) rfl rfl Try.func24 (by kernel_rfl) rfl #[.agg #[.int .i64 t317, .slice Ao31 t318.length co31], .int .i64 1] rfl qG ?_; (with_reducible first | refine (laws_markCnf.calls t317 _ (.slice Ao31 t318.length co31) t318 1 t340 w _ ?side1 (Kd.S_R (HO_322001.out)) A52.out).mono ?_ | refine (laws_markCnf.calls t317 _ (.slice Ao31 t318.length co31) t318 1 t340 w _ ?side1 (Kd.R_drewN (Kd.S_R (HO_322001.out)) _) A52.out).mono ?_); (case side1 => repeat (first | (with_reducible first | exact HB.out | apply below_alloc | apply pw_below_drewN | apply below_drew1 | refine below_set ?_ GE303.out | refine below_set ?_ GE321.out) | exact HB.out)); rintro e w63 ⟨rfl, hb, hkp⟩; refine ⟨_, rfl, ?_⟩; have n0_ := Aside0.mk (Kd.R_mono (ok' := fun k_ => some k_ ≠ (.slice Ao34 t322.length co34 : Value).ownBlock ∧ some k_ ≠ (v326 : Value).ownBlock ∧ some k_ ≠ (.slice Ao60 t336.length co60 : Value).ownBlock) (R_keepP rfl HO_6.out hkp (fun k_ e_ hs_ => absurd hs_.1 (by simp only [e_, ne_eq, not_true_eq_false, false_and, and_false, not_false_eq_true]))) (fun k_ hk_ => ⟨hk_.1.1, hk_.1.2, hk_.2⟩)); have n1_ := Aside0.mk (Kd.R_mono (ok' := fun k_ => some k_ ≠ (v313 : Value).ownBlock ∧ some k_ ≠ (v326 : Value).ownBlock ∧ some k_ ≠ (.slice Ao60 t336.length co60 : Value).ownBlock) (R_keepP rfl HO_10.out hkp (fun k_ e_ hs_ => absurd hs_.1 (by simp only [e_, ne_eq, not_true_eq_false, false_and, and_false, not_false_eq_true]))) (fun k_ hk_ => ⟨hk_.1.1, hk_.1.2, hk_.2⟩)); have n2_ := Aside0.mk (Kd.R_mono (ok' := fun k_ => some k_ ≠ (v313 : Value).ownBlock ∧ some k_ ≠ (.slice Ao34 t322.length co34 : Value).ownBlock ∧ some k_ ≠ (.slice Ao60 t336.length co60 : Value).ownBlock) (R_keepP rfl HO_11.out hkp (fun k_ e_ hs_ => absurd hs_.1 (by simp only [e_, ne_eq, not_true_eq_false, false_and, and_false, not_false_eq_true]))) (fun k_ hk_ => ⟨hk_.1.1, hk_.1.2, hk_.2⟩)); have n3_ := Aside0.mk (blk_keepP (qK BK303.out) hkp (by decide)); have n4_ := Aside0.mk (blk_keepP (qK BK321.out) hkp (by decide)); have n6_ := Aside0.mk (Kd.R_mono (ok' := fun k_ => some k_ ≠ (v313 : Value).ownBlock ∧ some k_ ≠ (.slice Ao34 t322.length co34 : Value).ownBlock ∧ some k_ ≠ (v326 : Value).ownBlock) (R_keepP rfl HO338.out hkp (fun k_ e_ hs_ => absurd hs_.1 (by simp only [e_, ne_eq, not_true_eq_false, false_and, and_false, not_false_eq_true]))) (fun k_ hk_ => ⟨hk_.1.1.2, hk_.1.2, hk_.2⟩)); have n7_ := Aside0.mk (hb); clear HO_6; clear HO_10; clear HO_11; clear BK303; clear BK321; clear HO334; clear HO338; clear HB; clear HO_322001; have HO_6 := n0_; have HO_10 := n1_; have HO_11 := n2_; have BK303 := n3_; have BK321 := n4_; have HO338 := n6_; have HB := n7_; clear n0_ n1_ n2_ n3_ n4_ n6_ n7_; (try clear hb); (try clear hkp)) | ((with_reducible refine gate_callee (f := 25) rfl ?_); refine goesL_ (some 77) rfl rfl Try.func25 (by kernel_rfl) rfl #[.slice Ao34 t322.length co34, .int .i64 t340] rfl qG ?_; (with_reducible refine (laws_markIntS.calls kj15 (fun k_ => some k_ = (.slice Ao34 t322.length co34 : Value).ownBlock) (.slice Ao34 t322.length co34) t322 t340 t341 t342 w _ ?side1 ?side2 A53.out).mono ?_); (case side1 => repeat (first | (with_reducible first | exact HB.out | apply below_alloc | apply pw_below_drewN | apply below_drew1 | refine below_set ?_ GE303.out | refine below_set ?_ GE321.out) | exact HB.out)); (case side2 => exact Kd.R_tight rfl HO_10.out); rintro e w64 ⟨rfl, hy0, hb, hkp⟩; refine ⟨_, rfl, ?_⟩; have n0_ := Aside0.mk (Kd.R_mono (ok' := fun k_ => some k_ ≠ (.slice Ao34 t322.length co34 : Value).ownBlock ∧ some k_ ≠ (v326 : Value).ownBlock ∧ some k_ ≠ (.slice Ao60 t336.length co60 : Value).ownBlock) (Kd.R_keptB (HO_6.out) hkp (fun k_ hk_ hs_ => (hk_.1) hs_)) (fun k_ hk_ => ⟨hk_.1.1, hk_.1.2.1, hk_.1.2.2⟩)); have n1_ := Aside0.mk (Kd.R_reok rfl hy0 (fun k_ e_ => HO_10.out.1 k_ e_)); have n2_ := Aside0.mk (Kd.R_mono (ok' := fun k_ => some k_ ≠ (v313 : Value).ownBlock ∧ some k_ ≠ (.slice Ao34 t322.length co34 : Value).ownBlock ∧ some k_ ≠ (.slice Ao60 t336.length co60 : Value).ownBlock) (Kd.R_keptB (HO_11.out) hkp (fun k_ hk_ hs_ => (hk_.2.1) hs_)) (fun k_ hk_ => ⟨hk_.1.1, hk_.1.2.1, hk_.1.2.2⟩)); have n3_ := Aside0.mk (blk_kept BK303.out hkp (fun hs_ => (fun e_ => (Kd.R_ne HO_10.out BK303.out (by decide)) e_) hs_)); have n4_ := Aside0.mk (blk_kept BK321.out hkp (fun hs_ => (fun e_ => (Kd.R_ne HO_10.out BK321.out (by decide)) e_) hs_)); have n6_ := Aside0.mk (Kd.R_mono (ok' := fun k_ => some k_ ≠ (v313 : Value).ownBlock ∧ some k_ ≠ (.slice Ao34 t322.length co34 : Value).ownBlock ∧ some k_ ≠ (v326 : Value).ownBlock) (Kd.R_keptB (HO338.out) hkp (fun k_ hk_ hs_ => (hk_.2.1) hs_)) (fun k_ hk_ => ⟨hk_.1.1, hk_.1.2.1, hk_.1.2.2⟩)); have n7_ := Aside0.mk (hb); clear HO_6; clear HO_10; clear HO_11; clear BK303; clear BK321; clear HO338; clear HB; have HO_6 := n0_; have HO_10 := n1_; have HO_11 := n2_; have BK303 := n3_; have BK321 := n4_; have HO338 := n6_; have HB := n7_; clear n0_ n1_ n2_ n3_ n4_ n6_ n7_; (try clear hb); (try clear hkp); (try clear hy0)))
                (try simp only [Act.put, List.setIfInBounds_toArray, List.set_cons_zero, List.set_cons_succ])
                go_cut [95] (fun v95 wc => ∃ (kq : Nat) (x95_53 : Bool), v95 = .bool x95_53 ∧ Aside0 (laws_FnExactForced.j1 kq l1 t312 t315 t316 t325 x95_53 a0_0 l0_1 = some true) ∧ Aside0 (kq ≤ kj15) ∧ Aside0 (Kd.R (Kd.int .i64) 3 wc w.heap.size (fun k_ => some k_ ≠ (v326 : Value).ownBlock) v313 t312) ∧ Aside0 (Kd.R (Kd.int .i64) 3 wc w.heap.size (fun k_ => some k_ ≠ (v313 : Value).ownBlock) v326 t325) ∧ Aside0 (wc.heap[gb303]? = some (.cells #[.int .i64 a0_0, (.slice A0_1 l0_1.length c0_1)] 24 (0, 0))) ∧ Aside0 (Below w.heap.size w wc))
                case first =>
                  have H := HC54.out
                  clear HC54
                  by_cases c65 : t341 < 0
                  · rw [if_pos c65] at H
                    exact absurd H (by cases kj15 <;> simp [laws_FnExactForced.j1])
                  · rw [if_neg c65] at H
                    have c65b0 : decide (t341 < 0) = false := decide_eq_false c65
                    clear c65
                    (first | rw [c65b0] | (simp only [i64_w, i32_w]; rw [c65b0]) | skip)
                    replace H := Option.bind_eq_some_iff.mp H
                    obtain ⟨t343, A660, H⟩ := H
                    replace H : (if t343 = true then (if (t328 != t315) = true then (laws_FnExactForced.j1 kj15 l1 t312 t315 t316 t325 true a0_0 l0_1) else (laws_FnExactForced.j1 kj15 l1 t312 t315 t316 t325 (t329 != t316) a0_0 l0_1)) else (laws_FnExactForced.j1 kj15 l1 t312 t315 t316 t325 true a0_0 l0_1)) = some true := H
                    have A66 := Aside0.mk A660
                    clear A660
                    by_cases c67 : t343 = true
                    · subst c67
                      have H1 : (if (t328 != t315) = true then (laws_FnExactForced.j1 kj15 l1 t312 t315 t316 t325 true a0_0 l0_1) else (laws_FnExactForced.j1 kj15 l1 t312 t315 t316 t325 (t329 != t316) a0_0 l0_1)) = some true := by rw [if_pos rfl] at H; exact H
                      clear H
                      have H := H1
                      clear H1
                      by_cases c68 : (t328 != t315) = true
                      · rw [if_pos c68] at H
                        exact absurd H (by cases kj15 <;> simp [laws_FnExactForced.j1])
                      · rw [if_neg c68] at H
                        have c68b0 : (t328 != t315) = false := by simpa using c68
                        (try (have c68b1 : decide (t328 = t315) = true := by simpa using c68))
                        (try (have c68b2 : (t328 == t315) = true := by simpa using c68))
                        clear c68
                        have H' := Aside0.mk H
                        clear H
                        obtain ⟨Ao71, co71, eo71⟩ := Kd.R_slice HO_11.out
                        subst eo71
                        obtain ⟨Ao72, co72, eo72⟩ := Kd.R_slice HO_6.out
                        subst eo72
                        go_wp2_with (first | (go_at_call 23; (with_reducible refine (laws_eqIntS.calls kj15 _ _ t325 _ _ t312 true _ ?side1 ?side2 ?side3 ?side4 A66.out).mono ?_); (case side1 => repeat (first | exact (Kd.R_reads' HO_11.out).2.2 | (with_reducible refine Kd.C_alloc ?_ _) | (with_reducible refine Kd.C_drewN ?_ _) | (with_reducible refine Kd.C_drew ?_))); (case side2 => exact (Kd.R_reads' HO_11.out).2.1); (case side3 => repeat (first | exact (Kd.R_reads' HO_6.out).2.2 | (with_reducible refine Kd.C_alloc ?_ _) | (with_reducible refine Kd.C_drewN ?_ _) | (with_reducible refine Kd.C_drew ?_))); (case side4 => exact (Kd.R_reads' HO_6.out).2.1); rintro e w' ⟨rfl, ⟨nd, rfl⟩⟩))
                        go_meet
                        case rel => exact ⟨_, ((t329 != t316)), qS, H', ⟨by have := HJ15.out; first | omega | exact Nat.le_refl _⟩, ⟨by (with_reducible repeat (first | apply Kd.R_alloc | apply Kd.R_drewN | apply Kd.R_drew)); exact Kd.R_mono HO_6.out (fun _ hk => hk.2.1)⟩, ⟨by (with_reducible repeat (first | apply Kd.R_alloc | apply Kd.R_drewN | apply Kd.R_drew)); exact Kd.R_mono HO_11.out (fun _ hk => hk.1)⟩, ⟨by (with_reducible repeat (first | refine blk_drewN ?_ _ | refine blk_drew ?_ | refine blk_alloc ?_ _)); exact BK303.out⟩, ⟨qB⟩⟩
                    · replace c67 := Bool.eq_false_iff.mpr c67
                      subst c67
                      have H1 : (laws_FnExactForced.j1 kj15 l1 t312 t315 t316 t325 true a0_0 l0_1) = some true := by rw [if_neg (show ¬ (false = true) by decide)] at H; exact H
                      exact absurd H1 (by cases kj15 <;> simp [laws_FnExactForced.j1])
                case rest =>
                  clear HC54
                  try clear c1
                  try clear c2
                  try clear p2
                  try clear c3
                  try clear c3b0
                  try clear c3b1
                  try clear c4
                  try clear c5
                  try clear c6
                  try clear c6b0
                  try clear c9
                  try clear c11
                  try clear c13
                  try clear c20
                  try clear c21
                  try clear c22
                  try clear c23
                  try clear c24
                  try clear c25
                  try clear c29
                  try clear c37
                  try clear c38
                  try clear c38b0
                  try clear c38b1
                  try clear c38b2
                  try clear c45
                  try clear c48
                  try clear c51
                  try clear c61
                  try clear c65
                  try clear c65b0
                  try clear c67
                  try clear c68
                  try clear c68b0
                  try clear c68b1
                  try clear c68b2
                  try clear hcz18_0
                  try clear hcz18_1
                  try clear hcz20_0
                  try clear hcz20_1
                  try clear hcz26_0
                  try clear hcz26_1
                  try clear hcz30_0
                  try clear hcz30_1
                  try clear hcz33_0
                  try clear hcz33_1
                  try clear hcz62_0
                  try clear hcz62_1
                  try clear hcz8_0
                  try clear hcz8_1
                  try clear hfz18_0
                  try clear hfz18_1
                  try clear hfz20_0
                  try clear hfz20_1
                  try clear hfz26_0
                  try clear hfz26_1
                  try clear hfz30_0
                  try clear hfz30_1
                  try clear hfz33_0
                  try clear hfz33_1
                  try clear hfz62_0
                  try clear hfz62_1
                  try clear hfz8_0
                  try clear hfz8_1
                  try clear p2
                  obtain ⟨kq, x95_53, rfl, HA, HJ53, HO_6, HO_11, BK303, HB⟩ := hcut
                  cases kq with
                  | zero => exact absurd HA.out (by simp [laws_FnExactForced.j1])
                  | succ kj53 =>
                    have H := HA.out
                    clear HA
                    simp only [laws_FnExactForced.j1] at H
                    by_cases c75 : x95_53 = true
                    · subst c75
                      have H1 : (some false) = some true := by rw [if_pos rfl] at H; exact H
                      exact absurd H1 (by simp)
                    · replace c75 := Bool.eq_false_iff.mpr c75
                      subst c75
                      have H1 : ((laws_markIntS.f kj53 t325 1).bind fun bt344 => ((laws_heldIntS.f kj53 bt344.2 1).bind fun t346 => (if t346 < 0 then (some false) else (if t346 = bt344.1 then ((laws_toCnf.f kj53 a0_0 l0_1).bind fun bt347 => ((laws_toIntS.f kj53 l1).bind fun t351 => ((impl_Forced.f kj53 bt347.1 bt347.2 t351).bind fun bt354 => ((laws_eqIntS.f kj53 bt354.1 t312).bind fun t359 => (if t359 = true then (if (bt354.2.1 != t315) = true then (laws_FnExactForced.j2 kj53 bt344.2 bt344.1 true) else (laws_FnExactForced.j2 kj53 bt344.2 bt344.1 (bt354.2.2 != t316))) else (laws_FnExactForced.j2 kj53 bt344.2 bt344.1 true)))))) else (some false))))) = some true := by rw [if_neg (show ¬ (false = true) by decide)] at H; exact H
                      clear H
                      have H := H1
                      clear H1
                      replace H := Option.bind_eq_some_iff.mp H
                      obtain ⟨⟨t344, t345⟩, A760, H⟩ := H
                      replace H : ((laws_heldIntS.f kj53 t345 1).bind fun t346 => (if t346 < 0 then (some false) else (if t346 = t344 then ((laws_toCnf.f kj53 a0_0 l0_1).bind fun bt347 => ((laws_toIntS.f kj53 l1).bind fun t351 => ((impl_Forced.f kj53 bt347.1 bt347.2 t351).bind fun bt354 => ((laws_eqIntS.f kj53 bt354.1 t312).bind fun t359 => (if t359 = true then (if (bt354.2.1 != t315) = true then (laws_FnExactForced.j2 kj53 t345 t344 true) else (laws_FnExactForced.j2 kj53 t345 t344 (bt354.2.2 != t316))) else (laws_FnExactForced.j2 kj53 t345 t344 true)))))) else (some false)))) = some true := H
                      have A76 := Aside0.mk A760
                      clear A760
                      replace H := Option.bind_eq_some_iff.mp H
                      obtain ⟨t346, A770, H⟩ := H
                      replace H : (if t346 < 0 then (some false) else (if t346 = t344 then ((laws_toCnf.f kj53 a0_0 l0_1).bind fun bt347 => ((laws_toIntS.f kj53 l1).bind fun t351 => ((impl_Forced.f kj53 bt347.1 bt347.2 t351).bind fun bt354 => ((laws_eqIntS.f kj53 bt354.1 t312).bind fun t359 => (if t359 = true then (if (bt354.2.1 != t315) = true then (laws_FnExactForced.j2 kj53 t345 t344 true) else (laws_FnExactForced.j2 kj53 t345 t344 (bt354.2.2 != t316))) else (laws_FnExactForced.j2 kj53 t345 t344 true)))))) else (some false))) = some true := H
                      have A77 := Aside0.mk A770
                      clear A770
                      by_cases c78 : t346 < 0
                      · rw [if_pos c78] at H
                        exact absurd H (by simp)
                      · rw [if_neg c78] at H
                        have c78b0 : decide (t346 < 0) = false := decide_eq_false c78
                        clear c78
                        by_cases c81 : t346 = t344
                        · rw [if_pos c81] at H
                          have c81b0 : (t346 == t344) = true := beq_iff_eq.mpr c81
                          have c81b1 : (t346 != t344) = false := bne_eq_false_iff_eq.mpr c81
                          clear c81
                          replace H := Option.bind_eq_some_iff.mp H
                          obtain ⟨⟨t347, t348⟩, A820, H⟩ := H
                          replace H : ((laws_toIntS.f kj53 l1).bind fun t351 => ((impl_Forced.f kj53 t347 t348 t351).bind fun bt354 => ((laws_eqIntS.f kj53 bt354.1 t312).bind fun t359 => (if t359 = true then (if (bt354.2.1 != t315) = true then (laws_FnExactForced.j2 kj53 t345 t344 true) else (laws_FnExactForced.j2 kj53 t345 t344 (bt354.2.2 != t316))) else (laws_FnExactForced.j2 kj53 t345 t344 true))))) = some true := H
                          have A82 := Aside0.mk A820
                          clear A820
                          replace H := Option.bind_eq_some_iff.mp H
                          obtain ⟨t351, A830, H⟩ := H
                          replace H : ((impl_Forced.f kj53 t347 t348 t351).bind fun bt354 => ((laws_eqIntS.f kj53 bt354.1 t312).bind fun t359 => (if t359 = true then (if (bt354.2.1 != t315) = true then (laws_FnExactForced.j2 kj53 t345 t344 true) else (laws_FnExactForced.j2 kj53 t345 t344 (bt354.2.2 != t316))) else (laws_FnExactForced.j2 kj53 t345 t344 true)))) = some true := H
                          have A83 := Aside0.mk A830
                          clear A830
                          replace H := Option.bind_eq_some_iff.mp H
                          obtain ⟨⟨t354, t357, t358⟩, A840, H⟩ := H
                          replace H : ((laws_eqIntS.f kj53 t354 t312).bind fun t359 => (if t359 = true then (if (t357 != t315) = true then (laws_FnExactForced.j2 kj53 t345 t344 true) else (laws_FnExactForced.j2 kj53 t345 t344 (t358 != t316))) else (laws_FnExactForced.j2 kj53 t345 t344 true))) = some true := H
                          have A84 := Aside0.mk A840
                          clear A840
                          have HC85 := Aside0.mk H
                          clear H
                          obtain ⟨Ao86, co86, eo86⟩ := Kd.R_slice HO_11.out
                          subst eo86
                          go_upto_region 31 with (first | ((with_reducible refine gate_callee (f := 25) rfl ?_); refine goesL_ (some 98) rfl rfl Try.func25 (by kernel_rfl) rfl #[.slice Ao86 t325.length co86, .int .i64 1] rfl qG ?_; (with_reducible refine (laws_markIntS.calls kj53 (fun k_ => some k_ = (.slice Ao86 t325.length co86 : Value).ownBlock) (.slice Ao86 t325.length co86) t325 1 t344 t345 w _ ?side1 ?side2 A76.out).mono ?_); (case side1 => repeat (first | (with_reducible first | exact HB.out | apply below_alloc | apply pw_below_drewN | apply below_drew1 | refine below_set ?_ GE303.out) | exact HB.out)); (case side2 => exact Kd.R_tight rfl HO_11.out); rintro e w87 ⟨rfl, hy0, hb, hkp⟩; refine ⟨_, rfl, ?_⟩; have n0_ := Aside0.mk (Kd.R_mono (ok' := fun k_ => some k_ ≠ (.slice Ao86 t325.length co86 : Value).ownBlock) (Kd.R_keptB (HO_6.out) hkp (fun k_ hk_ hs_ => (hk_) hs_)) (fun k_ hk_ => hk_.1)); have n1_ := Aside0.mk (Kd.R_reok rfl hy0 (fun k_ e_ => HO_11.out.1 k_ e_)); have n2_ := Aside0.mk (blk_kept BK303.out hkp (fun hs_ => (fun e_ => (Kd.R_ne HO_11.out BK303.out (by decide)) e_) hs_)); have n3_ := Aside0.mk (hb); clear HO_6; clear HO_11; clear BK303; clear HB; have HO_6 := n0_; have HO_11 := n1_; have BK303 := n2_; have HB := n3_; clear n0_ n1_ n2_ n3_; (try clear hb); (try clear hkp); (try clear hy0)) | ((with_reducible refine gate_callee (f := 26) rfl ?_); refine goesL_ (some 101) rfl rfl Try.func26 (by kernel_rfl) rfl #[.slice Ao86 t345.length co86, .int .i64 1] rfl (by (try simp only [List.map_toArray, List.map_cons, List.map_nil]); first | done | (rw [show t345.length = t325.length from (Kd.R_reads' HO_11.out).1.symm] <;> rfl) | rfl | (simp only [List.length_drop, List.length_take]; rfl)) ?_; (with_reducible refine (laws_heldIntS.calls kj53 _ _ t345 1 t346 _ ?side1 ?side2 A77.out).mono ?_); (case side1 => repeat (first | exact (Kd.R_reads' HO_11.out).2.2 | (with_reducible refine Kd.C_alloc ?_ _) | (with_reducible refine Kd.C_drewN ?_ _) | (with_reducible refine Kd.C_drew ?_))); (case side2 => rw [show t345.length = t325.length from (Kd.R_reads' HO_11.out).1.symm]; exact (Kd.R_reads' HO_11.out).2.1); rintro e w' ⟨rfl, ⟨nd, rfl⟩⟩; refine ⟨_, rfl, ?_⟩; have hcz88_0 : w87.cell? ⟨gb303, 0, none⟩ = some (.int .i64 a0_0) := (blk_cell BK303.out 0).trans rfl; have hcz88_1 : w87.cell? ⟨gb303, 1, none⟩ = some (.slice A0_1 l0_1.length c0_1) := (blk_cell BK303.out 1).trans rfl; have hfz88_0 := blk_frozen BK303.out 0; have hfz88_1 := blk_frozen BK303.out 1) | ((with_reducible refine gate_callee (f := 11) rfl ?_); refine goesL_ (some 109) rfl rfl Try.func11 (by kernel_rfl) rfl #[.agg #[.int .i64 a0_0, .slice A0_1 l0_1.length c0_1]] rfl qG ?_; (with_reducible refine (laws_toCnf.calls kj53 a0_0 _ _ l0_1 t347 t348 _ ?side1 ?side2 A82.out).mono ?_); (case side1 => repeat (first | exact (Kd.C_below HR0_1.out (qB)) | (with_reducible refine Kd.C_alloc ?_ _) | (with_reducible refine Kd.C_drewN ?_ _) | (with_reducible refine Kd.C_drew ?_))); (case side2 => exact HC0_1.out); rintro e w89 ⟨v349, rfl, ho0, hb⟩; refine ⟨_, rfl, ?_⟩; have n0_ := Aside0.mk (Kd.R_below (qR HO_6.out) hb); have n1_ := Aside0.mk (Kd.R_below (qR HO_11.out) hb); have n2_ := Aside0.mk (Kd.S_lower (Kd.S_new' (Kd.S_new' ho0 (Kd.R_lt (qR HO_6.out))) (Kd.R_lt (qR HO_11.out))) (below_size (qB))); have n3_ := Aside0.mk (blk_below (g := gb303) (o := .cells #[.int .i64 a0_0, .slice A0_1 l0_1.length c0_1] 24 (0, 0)) (qK BK303.out) hb); have n4_ := Aside0.mk (below_step (qB) hb); clear HO_6; clear HO_11; clear BK303; clear HB; have HO_6 := n0_; have HO_11 := n1_; have HO350 := n2_; have BK303 := n3_; have HB := n4_; clear n0_ n1_ n2_ n3_ n4_; (try clear hb); (try clear hb2); (try clear hk); (try clear hi); (try clear ho0)) | ((with_reducible refine gate_callee (f := 21) rfl ?_); refine goesL_ (some 111) rfl rfl Try.func21 (by kernel_rfl) rfl #[.slice A1 l1.length c1] rfl qG ?_; (with_reducible refine (laws_toIntS.calls kj53 _ _ l1 t351 _ ?side1 ?side2 A83.out).mono ?_); (case side1 => exact qC (Kd.C_below HR1.out HB.out)); (case side2 => exact HC1.out); rintro e w90 ⟨v352, rfl, ho0, hb⟩; refine ⟨_, rfl, ?_⟩; have n0_ := Aside0.mk (Kd.R_elder' (qR HO_6.out) (Kd.R_base ho0) hb); have n1_ := Aside0.mk (Kd.R_elder' (qR HO_11.out) (Kd.R_base ho0) hb); have n2_ := Aside0.mk (Kd.S_elder' (by (with_reducible repeat (first | apply Kd.S_alloc | apply Kd.S_drewN | apply Kd.S_drew)); exact HO350.out) (Kd.R_base ho0) hb); have n3_ := Aside0.mk (Kd.R_lower (Kd.R_new' (Kd.R_new' ho0 (Kd.R_lt (qR HO_6.out))) (Kd.R_lt (qR HO_11.out))) (below_size (qB))); have n4_ := Aside0.mk (blk_below (g := gb303) (o := .cells #[.int .i64 a0_0, .slice A0_1 l0_1.length c0_1] 24 (0, 0)) (qK BK303.out) hb); have n5_ := Aside0.mk (below_step (qB) hb); clear HO_6; clear HO_11; clear HO350; clear BK303; clear HB; have HO_6 := n0_; have HO_11 := n1_; have HO350 := n2_; have HO353 := n3_; have BK303 := n4_; have HB := n5_; clear n0_ n1_ n2_ n3_ n4_ n5_; (try clear hb); (try clear hb2); (try clear hk); (try clear hi); (try clear ho0); obtain ⟨Ao91, co91, eo91⟩ := Kd.S_slice HO350.out; subst eo91; obtain ⟨Ao92, co92, eo92⟩ := Kd.R_slice HO353.out; subst eo92) | ((with_reducible refine gate_callee (f := 22) rfl ?_); refine goesL_ (some 112) rfl rfl Try.func22 (by kernel_rfl) rfl #[.agg #[.int .i64 t347, .slice Ao91 t348.length co91], .slice Ao92 t351.length co92] rfl qG ?_; (with_reducible refine (impl_Forced.calls kj53 t347 _ _ t348 _ _ t351 t354 t357 t358 _ ?side1 ?side2 ?side3 ?side4 A84.out).mono ?_); (case side1 => repeat (first | exact (Kd.S_reads' HO350.out).2.2 | (with_reducible refine Kd.C_alloc ?_ _) | (with_reducible refine Kd.C_drewN ?_ _) | (with_reducible refine Kd.C_drew ?_))); (case side2 => exact (Kd.S_reads' HO350.out).2.1); (case side3 => repeat (first | exact (Kd.R_reads' HO353.out).2.2 | (with_reducible refine Kd.C_alloc ?_ _) | (with_reducible refine Kd.C_drewN ?_ _) | (with_reducible refine Kd.C_drew ?_))); (case side4 => exact (Kd.R_reads' HO353.out).2.1); rintro e w93 ⟨v355, rfl, ho0, hb⟩; refine ⟨_, rfl, ?_⟩; have n0_ := Aside0.mk (Kd.R_elder' (qR HO_6.out) (Kd.R_base ho0) hb); have n1_ := Aside0.mk (Kd.R_elder' (qR HO_11.out) (Kd.R_base ho0) hb); have n2_ := Aside0.mk (Kd.S_elder' (by (with_reducible repeat (first | apply Kd.S_alloc | apply Kd.S_drewN | apply Kd.S_drew)); exact HO350.out) (Kd.R_base ho0) hb); have n3_ := Aside0.mk (Kd.R_elder' (qR HO353.out) (Kd.R_base ho0) hb); have n4_ := Aside0.mk (Kd.R_lower (Kd.R_new' (Kd.R_new' (Kd.R_new' ho0 (Kd.R_lt (qR HO_6.out))) (Kd.R_lt (qR HO_11.out))) (Kd.R_lt (qR HO353.out))) (below_size (qB))); have n5_ := Aside0.mk (blk_below (g := gb303) (o := .cells #[.int .i64 a0_0, .slice A0_1 l0_1.length c0_1] 24 (0, 0)) (qK BK303.out) hb); have n6_ := Aside0.mk (below_step (qB) hb); clear HO_6; clear HO_11; clear HO350; clear HO353; clear BK303; clear HB; have HO_6 := n0_; have HO_11 := n1_; have HO350 := n2_; have HO353 := n3_; have HO356 := n4_; have BK303 := n5_; have HB := n6_; clear n0_ n1_ n2_ n3_ n4_ n5_ n6_; (try clear hb); (try clear hb2); (try clear hk); (try clear hi); (try clear ho0)))
                          (try simp only [Act.put, List.setIfInBounds_toArray, List.set_cons_zero, List.set_cons_succ])
                          go_cut [129] (fun v129 wc => ∃ (kq : Nat) (x129_84 : Bool), v129 = .bool x129_84 ∧ Aside0 (laws_FnExactForced.j2 kq t345 t344 x129_84 = some true) ∧ Aside0 (kq ≤ kj53) ∧ Aside0 (Kd.R (Kd.int .i64) 3 wc w.heap.size (fun _ => True) (.slice Ao86 t325.length co86) t345) ∧ Aside0 (wc.heap[gb303]? = some (.cells #[.int .i64 a0_0, (.slice A0_1 l0_1.length c0_1)] 24 (0, 0))) ∧ Aside0 (Below w.heap.size w wc))
                          case first =>
                            have H := HC85.out
                            clear HC85
                            replace H := Option.bind_eq_some_iff.mp H
                            obtain ⟨t359, A940, H⟩ := H
                            replace H : (if t359 = true then (if (t357 != t315) = true then (laws_FnExactForced.j2 kj53 t345 t344 true) else (laws_FnExactForced.j2 kj53 t345 t344 (t358 != t316))) else (laws_FnExactForced.j2 kj53 t345 t344 true)) = some true := H
                            have A94 := Aside0.mk A940
                            clear A940
                            by_cases c95 : t359 = true
                            · subst c95
                              have H1 : (if (t357 != t315) = true then (laws_FnExactForced.j2 kj53 t345 t344 true) else (laws_FnExactForced.j2 kj53 t345 t344 (t358 != t316))) = some true := by rw [if_pos rfl] at H; exact H
                              clear H
                              have H := H1
                              clear H1
                              by_cases c96 : (t357 != t315) = true
                              · rw [if_pos c96] at H
                                exact absurd H (by cases kj53 <;> simp [laws_FnExactForced.j2])
                              · rw [if_neg c96] at H
                                have c96b0 : (t357 != t315) = false := by simpa using c96
                                (try (have c96b1 : decide (t357 = t315) = true := by simpa using c96))
                                (try (have c96b2 : (t357 == t315) = true := by simpa using c96))
                                clear c96
                                (first | rw [c96b0] | (simp only [i64_w, i32_w]; rw [c96b0]) | skip)
                                have H' := Aside0.mk H
                                clear H
                                obtain ⟨Ao99, co99, eo99⟩ := Kd.R_slice HO356.out
                                subst eo99
                                obtain ⟨Ao100, co100, eo100⟩ := Kd.R_slice HO_6.out
                                subst eo100
                                go_wp2_with (first | ((with_reducible refine gate_callee (f := 23) rfl ?_); refine goesL_ (some 118) rfl rfl Try.func23 (by kernel_rfl) rfl #[.slice Ao99 t354.length co99, .slice Ao100 t312.length co100] rfl qG ?_; (with_reducible refine (laws_eqIntS.calls kj53 _ _ t354 _ _ t312 true _ ?side1 ?side2 ?side3 ?side4 A94.out).mono ?_); (case side1 => repeat (first | exact (Kd.R_reads' HO356.out).2.2 | (with_reducible refine Kd.C_alloc ?_ _) | (with_reducible refine Kd.C_drewN ?_ _) | (with_reducible refine Kd.C_drew ?_))); (case side2 => exact (Kd.R_reads' HO356.out).2.1); (case side3 => repeat (first | exact (Kd.R_reads' HO_6.out).2.2 | (with_reducible refine Kd.C_alloc ?_ _) | (with_reducible refine Kd.C_drewN ?_ _) | (with_reducible refine Kd.C_drew ?_))); (case side4 => exact (Kd.R_reads' HO_6.out).2.1); rintro e w' ⟨rfl, ⟨nd, rfl⟩⟩; refine ⟨_, rfl, ?_⟩))
                                go_meet
                                case rel => exact ⟨_, ((t358 != t316)), qS, H', ⟨by have := HJ15.out; have := HJ53.out; first | omega | exact Nat.le_refl _⟩, ⟨by (with_reducible repeat (first | apply Kd.R_alloc | apply Kd.R_drewN | apply Kd.R_drew)); exact Kd.R_mono HO_11.out (fun _ hk => trivial)⟩, ⟨by (with_reducible repeat (first | refine blk_drewN ?_ _ | refine blk_drew ?_ | refine blk_alloc ?_ _)); exact BK303.out⟩, ⟨qB⟩⟩
                            · replace c95 := Bool.eq_false_iff.mpr c95
                              subst c95
                              have H1 : (laws_FnExactForced.j2 kj53 t345 t344 true) = some true := by rw [if_neg (show ¬ (false = true) by decide)] at H; exact H
                              exact absurd H1 (by cases kj53 <;> simp [laws_FnExactForced.j2])
                          case rest =>
                            clear HC85
                            try clear c1
                            try clear c2
                            try clear p2
                            try clear c3
                            try clear c3b0
                            try clear c3b1
                            try clear c4
                            try clear c5
                            try clear c6
                            try clear c6b0
                            try clear c7
                            try clear c8
                            try clear c9
                            try clear c11
                            try clear c13
                            try clear c20
                            try clear c21
                            try clear c22
                            try clear c23
                            try clear c24
                            try clear c25
                            try clear c26
                            try clear c29
                            try clear c37
                            try clear c38
                            try clear c38b0
                            try clear c38b1
                            try clear c38b2
                            try clear c45
                            try clear c48
                            try clear c51
                            try clear c61
                            try clear c65
                            try clear c65b0
                            try clear c67
                            try clear c68
                            try clear c68b0
                            try clear c68b1
                            try clear c68b2
                            try clear c75
                            try clear c78
                            try clear c78b0
                            try clear c81
                            try clear c81b0
                            try clear c81b1
                            try clear c95
                            try clear c96
                            try clear c96b0
                            try clear c96b1
                            try clear c96b2
                            try clear hcz18_0
                            try clear hcz18_1
                            try clear hcz20_0
                            try clear hcz20_1
                            try clear hcz26_0
                            try clear hcz26_1
                            try clear hcz30_0
                            try clear hcz30_1
                            try clear hcz33_0
                            try clear hcz33_1
                            try clear hcz62_0
                            try clear hcz62_1
                            try clear hcz88_0
                            try clear hcz88_1
                            try clear hcz8_0
                            try clear hcz8_1
                            try clear hfz18_0
                            try clear hfz18_1
                            try clear hfz20_0
                            try clear hfz20_1
                            try clear hfz26_0
                            try clear hfz26_1
                            try clear hfz30_0
                            try clear hfz30_1
                            try clear hfz33_0
                            try clear hfz33_1
                            try clear hfz62_0
                            try clear hfz62_1
                            try clear hfz88_0
                            try clear hfz88_1
                            try clear hfz8_0
                            try clear hfz8_1
                            try clear p2
                            obtain ⟨kq, x129_84, rfl, HA, HJ84, HO_11, BK303, HB⟩ := hcut
                            have hl11_84 := (Kd.R_reads' HO_11.out).1
                            rw [hl11_84] at HO_11
                            (try simp only [hl11_84])
                            (try simp only [hl11_84] at BK303)
                            cases kq with
                            | zero => exact absurd HA.out (by simp [laws_FnExactForced.j2])
                            | succ kj84 =>
                              have H := HA.out
                              clear HA
                              simp only [laws_FnExactForced.j2] at H
                              by_cases c103 : x129_84 = true
                              · subst c103
                                have H1 : (some false) = some true := by rw [if_pos rfl] at H; exact H
                                exact absurd H1 (by simp)
                              · replace c103 := Bool.eq_false_iff.mpr c103
                                subst c103
                                have H1 : ((laws_heldIntS.f kj84 t345 1).bind fun t360 => (if t360 < 0 then (some false) else (if t360 = t344 then (some true) else (some false)))) = some true := by rw [if_neg (show ¬ (false = true) by decide)] at H; exact H
                                clear H
                                have H := H1
                                clear H1
                                replace H := Option.bind_eq_some_iff.mp H
                                obtain ⟨t360, A1040, H⟩ := H
                                replace H : (if t360 < 0 then (some false) else (if t360 = t344 then (some true) else (some false))) = some true := H
                                have A104 := Aside0.mk A1040
                                clear A1040
                                by_cases c105 : t360 < 0
                                · rw [if_pos c105] at H
                                  exact absurd H (by simp)
                                · rw [if_neg c105] at H
                                  have c105b0 : decide (t360 < 0) = false := decide_eq_false c105
                                  clear c105
                                  by_cases c106 : t360 = t344
                                  · rw [if_pos c106] at H
                                    have c106b0 : (t360 == t344) = true := beq_iff_eq.mpr c106
                                    have c106b1 : (t360 != t344) = false := bne_eq_false_iff_eq.mpr c106
                                    clear c106
                                    go_wp2_with (first | ((with_reducible refine gate_callee (f := 26) rfl ?_); refine goesL_ (some 132) rfl rfl Try.func26 (by kernel_rfl) rfl #[.slice Ao86 t345.length co86, .int .i64 1] rfl qG ?_; (with_reducible refine (laws_heldIntS.calls kj84 _ _ t345 1 t360 _ ?side1 ?side2 A104.out).mono ?_); (case side1 => repeat (first | exact (Kd.R_reads' HO_11.out).2.2 | (with_reducible refine Kd.C_alloc ?_ _) | (with_reducible refine Kd.C_drewN ?_ _) | (with_reducible refine Kd.C_drew ?_))); (case side2 => exact (Kd.R_reads' HO_11.out).2.1); rintro e w' ⟨rfl, ⟨nd, rfl⟩⟩; refine ⟨_, rfl, ?_⟩))
                                    go_ret
                                    exact ⟨qE, qB⟩
                                  · rw [if_neg c106] at H
                                    exact absurd H (by simp)
                        · rw [if_neg c81] at H
                          exact absurd H (by simp)
              · replace c51 := Bool.eq_false_iff.mpr c51
                subst c51
                have H1 : (some false) = some true := by rw [if_neg (show ¬ (false = true) by decide)] at H; exact H
                exact absurd H1 (by simp)
            · replace c48 := Bool.eq_false_iff.mpr c48
              subst c48
              have H1 : (some false) = some true := by rw [if_neg (show ¬ (false = true) by decide)] at H; exact H
              exact absurd H1 (by simp)
/-- THE PURE STATEMENT of laws_FnExactForced. -/
def laws_FnExactForced.Pure : Prop := ∀ (a0_0 : Int) (l0_1 : List (List Int)) (l1 : List Int), (Lit.int .i64 a0_0).wf = true → ((l0_1).length ≤ maxLen ∧ ∀ y ∈ l0_1, ((y).length ≤ maxLen ∧ ∀ y_ ∈ y, (Lit.int .i64 y_).wf = true)) → ((l1).length ≤ maxLen ∧ ∀ y ∈ l1, (Lit.int .i64 y).wf = true) → ∃ k, laws_FnExactForced.f k a0_0 l0_1 l1 = some true
theorem laws_FnExactForced.walk (P : laws_FnExactForced.Pure) (a0_0 : Int) (A0_1 : Option Addr) (c0_1 : Nat) (l0_1 : List (List Int)) (A1 : Option Addr) (c1 : Nat) (l1 : List Int) (w : World) (hr0_1 : Kd.C (Kd.slice 3 (Kd.int .i64)) w A0_1 l0_1.length l0_1) (hc0_1 : l0_1.length ≤ c0_1) (hr1 : Kd.C (Kd.int .i64) w A1 l1.length l1) (hc1 : l1.length ≤ c1) (w0_0 : (Lit.int .i64 a0_0).wf = true) (w0_1 : ((l0_1).length ≤ maxLen ∧ ∀ y ∈ l0_1, ((y).length ≤ maxLen ∧ ∀ y_ ∈ y, (Lit.int .i64 y_).wf = true))) (w1 : ((l1).length ≤ maxLen ∧ ∀ y ∈ l1, (Lit.int .i64 y).wf = true)) :
    Calls Try.prog 6 #[.agg #[.int .i64 a0_0, .slice A0_1 l0_1.length c0_1], .slice A1 l1.length c1] w fun e w' => e = .returned (.bool true) ∧ Below w.heap.size w w' := by
  obtain ⟨k, h⟩ := P a0_0 l0_1 l1 w0_0 w0_1 w1
  refine (laws_FnExactForced.calls k a0_0 A0_1 c0_1 l0_1 A1 c1 l1 true w hr0_1 hc0_1 hr1 hc1 h).mono ?_
  rintro e w' ⟨rfl, hd⟩
  exact ⟨rfl, hd⟩

end Go.Proofs.Ytdmngodinbelfaa.X
