/- Go functions as Lean functions, each with the proof that its call comes to just its answer. Conditions: the arguments are of their kinds. -/
import Derived.Test.YtgdmdaalmoioeaaGreatX0
import Derived.Test.YtgdmdaalmoioeaaGreatX33
import Derived.Test.YtgdmdaalmoioeaaGreatX45
import Derived.Test.YtgdmdaalmoioeaaGreatX28
namespace Go.Proofs.YtgdmdaalmoioeaaGreat.X
open Go.RowKit Go.Proofs.YtgdmdaalmoioeaaGreatW.PrintWords Go.Proofs.YtgdmdaalmoioeaaGreatW.PrintLast Go.Proofs.YtgdmdaalmoioeaaGreatW.PrintMore
attribute [local go_sem] max2_int min2_int max_two min_two max_three min_three max_four min_four
set_option linter.unusedVariables false
set_option linter.unusedSimpArgs false
set_option maxHeartbeats 8000000
set_option maxRecDepth 100000
mutual
def impl_GoodCircuit.j0 : Nat → Bool → Int → List (S75) → List Int → Option (Bool)
 | 0, _, _, _, _ => none
 | k + 1, x24, x375000, x375001, x375002 => if x24 = true then (some false) else (impl_GoodCircuit.l0 k x375001 (x375001.length : Int) 0 x375000 x375001 x375002)
def impl_GoodCircuit.l0 : Nat → List (S75) → Int → Int → Int → List (S75) → List Int → Option (Bool)
 | 0, _, _, _, _, _, _ => none
 | k + 1, x26, x27, x28, x375000, x375001, x375002 => if x28 < x27 then (if 0 ≤ x28 then (if x28 < (x26.length : Int) then ((impl_isGate.f k ((rd_T75 x26 x28).f0) ((rd_T75 x26 x28).f1) ((rd_T75 x26 x28).f2) (wrap64 (x375000 + x28))).bind fun t377 => (if t377 = true then (impl_GoodCircuit.l0 k x26 x27 (wrap64 (x28 + 1)) x375000 x375001 x375002) else (some false))) else (none)) else (none)) else ((impl_Circuit_wires.f x375000 x375001 x375002).bind fun t378 => ((impl_areWiresBelow.f x375002 t378).bind fun t379 => (some t379)))
end
def impl_GoodCircuit.f (k : Nat) (a0_0 : Int) (l0_1 : List (S75)) (l0_2 : List Int) : Option (Bool) := if a0_0 < 0 then (impl_GoodCircuit.j0 k true a0_0 l0_1 l0_2) else (if a0_0 > 16 then (impl_GoodCircuit.j0 k true a0_0 l0_1 l0_2) else (if (l0_1.length : Int) > 300 then (impl_GoodCircuit.j0 k true a0_0 l0_1 l0_2) else (impl_GoodCircuit.j0 k (decide ((l0_2.length : Int) > 16)) a0_0 l0_1 l0_2)))
theorem impl_GoodCircuit.mono_l : ∀ k, (∀ y0 y1 y2 y3, LeO (impl_GoodCircuit.j0 k y0 y1 y2 y3) (impl_GoodCircuit.j0 (k + 1) y0 y1 y2 y3)) ∧ (∀ y0 y1 y2 y3 y4 y5, LeO (impl_GoodCircuit.l0 k y0 y1 y2 y3 y4 y5) (impl_GoodCircuit.l0 (k + 1) y0 y1 y2 y3 y4 y5))
 | 0 => ⟨fun _ _ _ _ r h => by simp [impl_GoodCircuit.j0] at h, fun _ _ _ _ _ _ r h => by simp [impl_GoodCircuit.l0] at h⟩
 | k + 1 => by
  obtain ⟨ih0, ih1⟩ := impl_GoodCircuit.mono_l k;refine ⟨?_, ?_⟩
  ·intros;unfold impl_GoodCircuit.j0;have m0 := @impl_isGate.mono; exact qM
  ·intros;unfold impl_GoodCircuit.l0;have m0 := @impl_isGate.mono; exact qM
theorem impl_GoodCircuit.mono : ∀ a0 a1 a2 k, LeO (impl_GoodCircuit.f k a0 a1 a2) (impl_GoodCircuit.f (k + 1) a0 a1 a2) := by
 intro a0 a1 a2 k;obtain ⟨ih0, ih1⟩ := impl_GoodCircuit.mono_l k;unfold impl_GoodCircuit.f;have m0 := @impl_isGate.mono; exact qM
theorem impl_GoodCircuit.calls (k : Nat) (a0_0 : Int) (A0_1 : Option Addr) (c0_1 : Nat) (l0_1 : List (S75)) (A0_2 : Option Addr) (c0_2 : Nat) (l0_2 : List Int) (r : Bool) (w : World) (hr0_1 : Kd.C k75 w A0_1 l0_1.length l0_1) (hc0_1 : l0_1.length ≤ c0_1) (hr0_2 : Kd.C (Kd.int .i64) w A0_2 l0_2.length l0_2) (hc0_2 : l0_2.length ≤ c0_2) (h : impl_GoodCircuit.f k a0_0 l0_1 l0_2 = some r) :
  Calls Tryz.prog 41 #[.agg #[.int .i64 a0_0, .slice A0_1 l0_1.length c0_1, .slice A0_2 l0_2.length c0_2]] w fun e w' => e = .returned (.bool r) ∧ Below w.heap.size w w' := by
 have hu37 := Tryz.underlying37;have hu75 := Tryz.underlying75;have HR0_1 := qa hr0_1;have HC0_1 := qa hc0_1;clear hr0_1 hc0_1;have HR0_2 := qa hr0_2;have HC0_2 := qa hc0_2;clear hr0_2 hc0_2;have HB := qa (Below.refl w.heap.size w);have H := h;unfold impl_GoodCircuit.f at H;clear h;have HC2 := qa H;clear H;go_enter Tryz.func41, Tryz.ntmps41
 go_upto_region 1 with (first | ((with_reducible refine gate_dst (N := 1) rfl ?_); (try (refine gate_guard (by rfl) ?_; dsimp only)); refine box_event rfl (N := 1) rfl (cs := #[.int .i64 a0_0, .slice A0_1 l0_1.length c0_1, .slice A0_2 l0_2.length c0_2]) (t := 37) qW ?_; intro gb374 hg w3 hbox hb; have BK374 := qa (hbox); have GW374 := qg w hg; replace HB := qa (below_step (qB) hb); clear hb hbox hg))
 (try simp only [Act.put, List.setIfInBounds_toArray, List.set_cons_zero, List.set_cons_succ])
 go_cut [24] (fun v24 wc => ∃ (kq : Nat) (x24_1 : Bool), v24 = .bool x24_1 ∧ Aside0 (impl_GoodCircuit.j0 kq x24_1 a0_0 l0_1 l0_2 = some r) ∧ Aside0 (kq ≤ k) ∧ Aside0 (wc.heap[gb374]? = some (.cells #[.int .i64 a0_0, (.slice A0_1 l0_1.length c0_1), (.slice A0_2 l0_2.length c0_2)] 37 (0, 0))) ∧ Aside0 (Below w.heap.size w wc))
 case first =>
  have H := HC2.out;clear HC2;by_cases c4 : a0_0 < 0
  ·rw [if_pos c4] at H;have c4b0 := decide_eq_true c4;clear c4;(first | rw [c4b0] | (simp only [i64_w, i32_w]; rw [c4b0]) | skip)
   have H' := qa H;clear H;have hcz5 := blk_cell BK374.out;have hcz5_1 := blk_cell BK374.out 1;have hcz5_2 := blk_cell BK374.out 2;have hfz5 := blk_frozen BK374.out;have hfz5_1 := blk_frozen BK374.out 1;have hfz5_2 := blk_frozen BK374.out 2;go_wp2
   go_meet
   case rel => exact ⟨_, (true), qS, H', ⟨by first | omega | exact Nat.le_refl _⟩, ⟨qK BK374.out⟩, ⟨qB⟩⟩
  ·rw [if_neg c4] at H;have c4b0 := decide_eq_false c4;clear c4;(first | rw [c4b0] | (simp only [i64_w, i32_w]; rw [c4b0]) | skip)
   by_cases c6 : a0_0 > 16
   ·rw [if_pos c6] at H;have c6b0 : decide (16 < a0_0) = true := decide_eq_true c6;clear c6;have H' := qa H;clear H;have hcz7 := blk_cell BK374.out;have hcz7_1 := blk_cell BK374.out 1;have hcz7_2 := blk_cell BK374.out 2;have hfz7 := blk_frozen BK374.out;have hfz7_1 := blk_frozen BK374.out 1;have hfz7_2 := blk_frozen BK374.out 2;go_wp2
    go_meet
    case rel => exact ⟨_, (true), qS, H', ⟨by first | omega | exact Nat.le_refl _⟩, ⟨qK BK374.out⟩, ⟨qB⟩⟩
   ·rw [if_neg c6] at H;have c6b0 : decide (16 < a0_0) = false := decide_eq_false c6;clear c6;by_cases c8 : (l0_1.length : Int) > 300
    ·rw [if_pos c8] at H;have c8b0 : decide (300 < (l0_1.length : Int)) = true := decide_eq_true c8;have c8b1 : decide (300 < l0_1.length) = true := decide_eq_true (by omega);clear c8;have H' := qa H;clear H;have hcz9 := blk_cell BK374.out;have hcz9_1 := blk_cell BK374.out 1;have hcz9_2 := blk_cell BK374.out 2;have hfz9 := blk_frozen BK374.out;have hfz9_1 := blk_frozen BK374.out 1;have hfz9_2 := blk_frozen BK374.out 2;go_wp2
     go_meet
     case rel => exact ⟨_, (true), qS, H', ⟨by first | omega | exact Nat.le_refl _⟩, ⟨qK BK374.out⟩, ⟨qB⟩⟩
    ·rw [if_neg c8] at H;have c8b0 : decide (300 < (l0_1.length : Int)) = false := decide_eq_false c8;have c8b1 : decide (300 < l0_1.length) = false := decide_eq_false (by omega);clear c8;have H' := qa H;clear H;have hcz10 := blk_cell BK374.out;have hcz10_1 := blk_cell BK374.out 1;have hcz10_2 := blk_cell BK374.out 2;have hfz10 := blk_frozen BK374.out;have hfz10_1 := blk_frozen BK374.out 1;have hfz10_2 := blk_frozen BK374.out 2;go_wp2
     go_meet
     case rel => exact ⟨_, (decide ((l0_2.length : Int) > 16)), qS, H', ⟨by first | omega | exact Nat.le_refl _⟩, ⟨qK BK374.out⟩, ⟨qB⟩⟩
 case rest =>
  clear HC2;obtain ⟨kq, x24_1, rfl, HA, HJ1, BK374, HB⟩ := hcut;cases kq with
  | zero => exact absurd HA.out (by simp [impl_GoodCircuit.j0])
  | succ kj1 =>
   have H := HA.out;clear HA;simp only [impl_GoodCircuit.j0] at H;by_cases c11 : x24_1 = true
   ·subst c11;rw [if_pos rfl] at H;obtain rfl := Option.some.inj H;go_wp2
    go_ret
    exact ⟨qE, qB⟩
   ·replace c11 := Bool.eq_false_iff.mpr c11;subst c11;rw [if_neg (show ¬ (false = true) by decide)] at H;have H' := qa H;clear H;have hcz12 := blk_cell BK374.out;have hcz12_1 := blk_cell BK374.out 1;have hcz12_2 := blk_cell BK374.out 2;have hfz12 := blk_frozen BK374.out;have hfz12_1 := blk_frozen BK374.out 1;have hfz12_2 := blk_frozen BK374.out 2;go_wp2
    go_loopg [28] kj1 (fun kq v28 w' => ∃ (x28_2 : Int), v28 = .int .i64 x28_2 ∧ Aside0 (impl_GoodCircuit.l0 kq l0_1 (l0_1.length : Int) x28_2 a0_0 l0_1 l0_2 = some r) ∧ Aside0 (kq ≤ kj1) ∧ Aside0 (w'.heap[gb374]? = some (.cells #[.int .i64 a0_0, (.slice A0_1 l0_1.length c0_1), (.slice A0_2 l0_2.length c0_2)] 37 (0, 0))) ∧ Aside0 (Below w.heap.size w w'))
    case atStart => exact ⟨(0), qS, H', ⟨Nat.le_refl _⟩, ⟨qK BK374.out⟩, ⟨qB⟩⟩
    case round =>
     clear H';obtain ⟨x28_2, rfl, HA, HK2, BK374, HB⟩ := hrel;cases gk with
     | zero => exact absurd HA.out (by simp [impl_GoodCircuit.l0])
     | succ k2 =>
      have H := HA.out;clear HA;simp only [impl_GoodCircuit.l0] at H;by_cases c13 : x28_2 < (l0_1.length : Int)
      ·rw [if_pos c13] at H;have c13b0 := decide_eq_true c13;clear c13;obtain ⟨c14, H⟩ := qI H;have c14b0 : decide (0 ≤ x28_2) = true := decide_eq_true c14;clear c14;obtain ⟨c15, H⟩ := qI H;have c15b0 : decide (x28_2 < (l0_1.length : Int)) = true := decide_eq_true c15;clear c15;replace H := Option.bind_eq_some_iff.mp H;obtain ⟨t377, A160, H⟩ := H;try dsimp only at H
       have A16 := qa A160;clear A160;by_cases c17 : t377 = true
       ·subst c17;rw [if_pos rfl] at H;have H' := qa H;clear H;have p375 : 0 ≤ (x28_2 : Int) := qD;have q375 : x28_2 < (l0_1.length : Int) := qD;obtain ⟨ad375, e375, hx375_0, hx375_1, hx375_2⟩ := at_T75 HR0_1.out x28_2 p375 q375;cases e375;replace hx375_0 := qx HB hx375_0;replace hx375_1 := qx HB hx375_1;replace hx375_2 := qx HB hx375_2;replace p375 := eq_true p375;replace q375 := eq_true q375;go_wp2_with (first | ((with_reducible refine gate_dst (N := 4) rfl ?_); (try (refine gate_guard (by rfl) ?_; dsimp only)); refine box_event rfl (N := 4) rfl (cs := #[.int .i64 0, .int .i64 0, .int .i64 0]) (t := 75) qW ?_; intro gb376 hg w18 hbox hb; have BK376 := qa (hbox); have GW376 := qg w hg; replace HB := qa (below_step (qB) hb); have NB374_376 := qnl hg (qK BK374.out); have NB376_374 := qng hg (qK BK374.out); replace BK374 := qa (blk_below (qK BK374.out) hb); clear hb hbox hg; have hnb19 := NB376_374.out; have hnc19 := NB374_376.out; have hcz20 := blk_cell BK376.out; have hfz20 := blk_frozen BK376.out; have hcz21 := blk_cell BK374.out; have hfz21 := blk_frozen BK374.out) | (go_at_call 71; (with_reducible refine (impl_isGate.calls k2 ((rd_T75 l0_1 x28_2).f0) ((rd_T75 l0_1 x28_2).f1) ((rd_T75 l0_1 x28_2).f2) (wrap64 (a0_0 + x28_2)) true _ A16.out).mono ?_); rintro e w22 ⟨rfl, hb⟩; replace BK374 := qa (blk_below (g := gb374) (o := .cells #[.int .i64 a0_0, .slice (some ad375) l0_1.length c0_1, .slice A0_2 l0_2.length c0_2] 37 (0, 0)) (qF BK374.out) hb); replace BK376 := qa (blk_below (g := gb376) (o := .cells #[.int .i64 ((rd_T75 l0_1 x28_2).f0), .int .i64 ((rd_T75 l0_1 x28_2).f1), .int .i64 ((rd_T75 l0_1 x28_2).f2)] 75 (0, 0)) (qP BK376.out) hb); replace HB := qa (below_step (qB) hb); (try clear hb); (try clear hb2); (try clear hk); (try clear hi)))
        go_roundg k2;case measure => have := HJ1.out; have := HK2.out; omega
        case rel => exact ⟨(wrap64 (x28_2 + 1)), qS, H', ⟨by have := HJ1.out; have := HK2.out; omega⟩, ⟨qK BK374.out⟩, ⟨qB⟩⟩
       ·replace c17 := Bool.eq_false_iff.mpr c17;subst c17;rw [if_neg (show ¬ (false = true) by decide)] at H;obtain rfl := Option.some.inj H;have p375 : 0 ≤ (x28_2 : Int) := qD;have q375 : x28_2 < (l0_1.length : Int) := qD;obtain ⟨ad375, e375, hx375_0, hx375_1, hx375_2⟩ := at_T75 HR0_1.out x28_2 p375 q375;cases e375;replace hx375_0 := qx HB hx375_0;replace hx375_1 := qx HB hx375_1;replace hx375_2 := qx HB hx375_2;replace p375 := eq_true p375;replace q375 := eq_true q375;go_wp2_with (first | ((with_reducible refine gate_dst (N := 4) rfl ?_); (try (refine gate_guard (by rfl) ?_; dsimp only)); refine box_event rfl (N := 4) rfl (cs := #[.int .i64 0, .int .i64 0, .int .i64 0]) (t := 75) qW ?_; intro gb376 hg w23 hbox hb; have BK376 := qa (hbox); have GW376 := qg w hg; replace HB := qa (below_step (qB) hb); have NB374_376 := qnl hg (qK BK374.out); have NB376_374 := qng hg (qK BK374.out); replace BK374 := qa (blk_below (qK BK374.out) hb); clear hb hbox hg; have hnb24 := NB376_374.out; have hnc24 := NB374_376.out; have hcz25 := blk_cell BK376.out; have hfz25 := blk_frozen BK376.out; have hcz26 := blk_cell BK374.out; have hfz26 := blk_frozen BK374.out) | (go_at_call 71; (with_reducible refine (impl_isGate.calls k2 ((rd_T75 l0_1 x28_2).f0) ((rd_T75 l0_1 x28_2).f1) ((rd_T75 l0_1 x28_2).f2) (wrap64 (a0_0 + x28_2)) false _ A16.out).mono ?_); rintro e w27 ⟨rfl, hb⟩; replace BK374 := qa (blk_below (g := gb374) (o := .cells #[.int .i64 a0_0, .slice (some ad375) l0_1.length c0_1, .slice A0_2 l0_2.length c0_2] 37 (0, 0)) (qF BK374.out) hb); replace BK376 := qa (blk_below (g := gb376) (o := .cells #[.int .i64 ((rd_T75 l0_1 x28_2).f0), .int .i64 ((rd_T75 l0_1 x28_2).f1), .int .i64 ((rd_T75 l0_1 x28_2).f2)] 75 (0, 0)) (qP BK376.out) hb); replace HB := qa (below_step (qB) hb); (try clear hb); (try clear hb2); (try clear hk); (try clear hi)))
        go_ret
        exact ⟨qE, qB⟩
      ·rw [if_neg c13] at H;have c13b0 := decide_eq_false c13;clear c13;replace H := Option.bind_eq_some_iff.mp H;obtain ⟨t378, A280, H⟩ := H;try dsimp only at H
       have A28 := qa A280;clear A280;replace H := Option.bind_eq_some_iff.mp H;obtain ⟨t379, A290, H⟩ := H;try dsimp only at H
       have A29 := qa A290;clear A290;obtain rfl := Option.some.inj H;try go_wp2
       have n0_ := qa (blk_drew BK374.out);have n1_ := qa (below_drew1 HB.out);clear BK374;clear HB;have BK374 := n0_;have HB := n1_;clear n0_ n1_;refine start_ (n := 6) (S := fun w' => w'.cell? ⟨gb374, 0, none⟩ = some (.int .i64 a0_0) ∧ w'.cell? ⟨gb374, 1, none⟩ = some (.slice A0_1 l0_1.length c0_1) ∧ w'.cell? ⟨gb374, 2, none⟩ = some (.slice A0_2 l0_2.length c0_2)) (ds := []) #[false, false, false, false, false, false] (by kernel_rfl) rfl rfl ⟨(blk_cell BK374.out 0).trans rfl, (blk_cell BK374.out 1).trans rfl, (blk_cell BK374.out 2).trans rfl⟩ (fun hHeld => ?_);generalize wr.drew = w30 at BK374 HB hHeld ⊢;refine pure_ (i := 0) (N := some 41) (v := ?_) (a' := ?_) #[true, false, false, false, false, false] rfl rfl (by kernel_rfl) (fun _ _ _ h => h) (Or.inl ⟨by rfl, ?_⟩) ?_ ?_;rotate_left
       ·intro w';go_simp
        with_reducible rfl
       rotate_left
       ·simp only [Act.put, List.setIfInBounds_toArray, List.set_cons_zero, List.set_cons_succ, i64_w, i32_w];rfl
       refine take_ (i := 1) (N := some 42) (v := ?_) (a' := ?_) #[true, true, false, false, false, false] rfl rfl (by kernel_rfl) (fun _ _ _ h => h) (Or.inl ⟨by rfl, ?_⟩) hHeld ?_ ?_;rotate_left
       ·rintro w' ⟨s0, s1, s2⟩;go_simp
        with_reducible rfl
       rotate_left
       ·simp only [Act.put, List.setIfInBounds_toArray, List.set_cons_zero, List.set_cons_succ, i64_w, i32_w];rfl
       refine take_ (i := 2) (N := some 43) (v := ?_) (a' := ?_) #[true, true, true, false, false, false] rfl rfl (by kernel_rfl) (fun _ _ _ h => h) (Or.inl ⟨by rfl, ?_⟩) hHeld ?_ ?_;rotate_left
       ·rintro w' ⟨s0, s1, s2⟩;go_simp
        with_reducible rfl
       rotate_left
       ·simp only [Act.put, List.setIfInBounds_toArray, List.set_cons_zero, List.set_cons_succ, i64_w, i32_w];rfl
       refine one_ (i := 3) (N := some 44) #[true, true, true, true, false, false] rfl rfl (by kernel_rfl) (by decide) (fun K hK => ?_);refine goes_ Tryz.func43 (by kernel_rfl) rfl #[.agg #[.int .i64 a0_0, .slice A0_1 l0_1.length c0_1, .slice A0_2 l0_2.length c0_2]] (by rfl) rfl rfl qG ?_;with_reducible refine (impl_Circuit_wires.calls a0_0 _ _ l0_1 _ _ l0_2 t378 _ ?side1 ?side2 ?side3 ?side4 A28.out).mono ?_
       (case side1 => exact qC (Kd.C_below HR0_1.out HB.out))
       (case side2 => exact HC0_1.out)
       (case side3 => exact qC (Kd.C_below HR0_2.out HB.out))
       (case side4 => exact HC0_2.out)
       rintro e w31 ⟨rfl, hb⟩;refine ⟨_, rfl, ?_⟩;have n0_ := qa (blk_below (qK BK374.out) hb);have n1_ := qa (below_step (qB) hb);clear BK374;clear HB;have BK374 := n0_;have HB := n1_;clear n0_ n1_;(try clear hb)
       (try clear hb2)
       (try clear hk)
       (try clear hi)
       refine hK.out _ _ ⟨(blk_cell BK374.out 0).trans rfl, (blk_cell BK374.out 1).trans rfl, (blk_cell BK374.out 2).trans rfl⟩ (fun hHeld => ?_);clear hK K;refine norm_ (a' := ?_) ?_ ?_;rotate_left
       ·show Act.put _ (some 44) _ = _;simp only [Act.put, List.setIfInBounds_toArray, List.set_cons_zero, List.set_cons_succ, i64_w, i32_w];rfl
       refine one_ (i := 4) (N := some 45) #[true, true, true, true, true, false] rfl rfl (by kernel_rfl) (by decide) (fun K hK => ?_);refine goes_ Tryz.func72 (by kernel_rfl) rfl #[.slice A0_2 l0_2.length c0_2, .int .i64 t378] (by rfl) rfl rfl qG ?_;with_reducible refine (impl_areWiresBelow.calls _ _ l0_2 t378 t379 _ ?side1 ?side2 A29.out).mono ?_
       (case side1 => exact qC (Kd.C_below HR0_2.out HB.out))
       (case side2 => exact HC0_2.out)
       rintro e w32 ⟨rfl, hb⟩;refine ⟨_, rfl, ?_⟩;have n0_ := qa (blk_below (qK BK374.out) hb);have n1_ := qa (below_step (qB) hb);clear BK374;clear HB;have BK374 := n0_;have HB := n1_;clear n0_ n1_;(try clear hb)
       (try clear hb2)
       (try clear hk)
       (try clear hi)
       refine hK.out _ _ ⟨(blk_cell BK374.out 0).trans rfl, (blk_cell BK374.out 1).trans rfl, (blk_cell BK374.out 2).trans rfl⟩ (fun hHeld => ?_);clear hK K;refine norm_ (a' := ?_) ?_ ?_;rotate_left
       ·show Act.put _ (some 45) _ = _;simp only [Act.put, List.setIfInBounds_toArray, List.set_cons_zero, List.set_cons_succ, i64_w, i32_w];rfl
       refine pure_ (i := 5) (N := some 2) (v := ?_) (a' := ?_) #[true, true, true, true, true, true] rfl rfl (by kernel_rfl) (fun _ _ _ h => h) (Or.inl ⟨by rfl, ?_⟩) ?_ ?_;rotate_left
       ·intro w';go_simp
        with_reducible rfl
       rotate_left
       ·simp only [Act.put, List.setIfInBounds_toArray, List.set_cons_zero, List.set_cons_succ, i64_w, i32_w];rfl
       refine done_ (by kernel_rfl) ?_;try go_wp2
       go_ret
       exact ⟨qE, qB⟩
def impl_GatesFor.j0 : Nat → Int → Int → List (S53) → Bool → Option (Int × (List (S75)) × List Int × Bool)
 | 0, _, _, _, _ => none
 | k + 1, x0, x1, x2, x23 => if x23 = true then (some (0, ([] : List (S75)), ([] : List Int), false)) else ((impl_gatesFor.f x0 x1 x2).bind fun bt384 => ((impl_GoodCircuit.f k bt384.1 bt384.2.1 bt384.2.2).bind fun t392 => (if t392 = true then (some (bt384.1, bt384.2.1, bt384.2.2, true)) else (some (0, ([] : List (S75)), ([] : List Int), false)))))
def impl_GatesFor.f (k : Nat) (a0 : Int) (a1 : Int) (l2 : List (S53)) : Option (Int × (List (S75)) × List Int × Bool) := (impl_isLaid.f a0).bind fun t381 => (if t381 = true then ((impl_GoodTerm.f k a0 a1 l2).bind fun t382 => (if t382 = true then ((impl_isPlain.f l2).bind fun t383 => (impl_GatesFor.j0 k a0 a1 l2 (!t383))) else (impl_GatesFor.j0 k a0 a1 l2 true))) else (impl_GatesFor.j0 k a0 a1 l2 true))
theorem impl_GatesFor.mono_l : ∀ k, (∀ y0 y1 y2 y3, LeO (impl_GatesFor.j0 k y0 y1 y2 y3) (impl_GatesFor.j0 (k + 1) y0 y1 y2 y3))
 | 0 => fun _ _ _ _ r h => by simp [impl_GatesFor.j0] at h
 | k + 1 => by
  have ih0 := impl_GatesFor.mono_l k
  ·intros;unfold impl_GatesFor.j0;have m0 := @impl_GoodCircuit.mono; have m1 := @impl_GoodTerm.mono; exact qM
theorem impl_GatesFor.mono : ∀ a0 a1 a2 k, LeO (impl_GatesFor.f k a0 a1 a2) (impl_GatesFor.f (k + 1) a0 a1 a2) := by
 intro a0 a1 a2 k;have ih0 := impl_GatesFor.mono_l k;unfold impl_GatesFor.f;have m0 := @impl_GoodCircuit.mono; have m1 := @impl_GoodTerm.mono; exact qM
theorem impl_GatesFor.calls (k : Nat) (a0 : Int) (a1 : Int) (A2 : Option Addr) (c2 : Nat) (l2 : List (S53)) (r1 : Int) (r2 : List (S75)) (r3 : List Int) (r4 : Bool) (w : World) (hr2 : Kd.C k53 w A2 l2.length l2) (hc2 : l2.length ≤ c2) (h : impl_GatesFor.f k a0 a1 l2 = some (r1, r2, r3, r4)) :
  Calls Tryz.prog 20 #[.int .i64 a0, .int .i64 a1, .slice A2 l2.length c2] w fun e w' => ∃ v1_ v2_ : Value, e = .returned (.tuple #[.agg #[.int .i64 r1, v1_, v2_], .bool r4]) ∧ Kd.R k75 75 w' w.heap.size (fun _ => True) v1_ r2 ∧ Kd.R (Kd.int .i64) 3 w' w.heap.size (fun _ => True) v2_ r3 ∧ Below w.heap.size w w' := by
 have hu37 := Tryz.underlying37;have HR2 := qa hr2;have HC2 := qa hc2;clear hr2 hc2;have HB := qa (Below.refl w.heap.size w);have H := h;unfold impl_GatesFor.f at H;clear h;have HC4 := qa H;clear H;go_enter Tryz.func20, Tryz.ntmps20
 go_upto_region 1 with (first | ((with_reducible refine gate_dst (N := 6) rfl ?_); refine box_event rfl (N := 6) rfl (cs := #[.int .i64 0, .slice none 0 0, .slice none 0 0]) (t := 37) qW ?_; intro gb380 hg w5 hbox hb; have BK380 := qa (hbox); have GW380 := qg w hg; replace HB := qa (below_step (qB) hb); clear hb hbox hg))
 (try simp only [Act.put, List.setIfInBounds_toArray, List.set_cons_zero, List.set_cons_succ])
 go_cut [23] (fun v23 wc => ∃ (kq : Nat) (x23_3 : Bool), v23 = .bool x23_3 ∧ Aside0 (impl_GatesFor.j0 kq a0 a1 l2 x23_3 = some (r1, r2, r3, r4)) ∧ Aside0 (kq ≤ k) ∧ Aside0 (wc.heap[gb380]? = some (.cells #[.int .i64 0, (.slice none 0 0), (.slice none 0 0)] 37 (0, 0))) ∧ Aside0 (Below w.heap.size w wc))
 case first =>
  have H := HC4.out;clear HC4;replace H := Option.bind_eq_some_iff.mp H;obtain ⟨t381, A60, H⟩ := H;try dsimp only at H
  have A6 := qa A60;clear A60;by_cases c7 : t381 = true
  ·subst c7;rw [if_pos rfl] at H;replace H := Option.bind_eq_some_iff.mp H;obtain ⟨t382, A80, H⟩ := H;try dsimp only at H
   have A8 := qa A80;clear A80;by_cases c9 : t382 = true
   ·subst c9;rw [if_pos rfl] at H;replace H := Option.bind_eq_some_iff.mp H;obtain ⟨t383, A100, H⟩ := H;try dsimp only at H
    have A10 := qa A100;clear A100;have H' := qa H;clear H;go_wp2_with (first | (go_at_call 37; (with_reducible refine (impl_isLaid.calls a0 true _ A6.out).mono ?_); rintro e w' ⟨rfl, ⟨nd, rfl⟩⟩) | (go_at_call 38; (with_reducible refine (impl_GoodTerm.calls k a0 a1 _ _ l2 true _ ?side1 ?side2 A8.out).mono ?_); (case side1 => exact qC (Kd.C_below HR2.out (qB))); (case side2 => exact HC2.out); rintro e w11 ⟨rfl, hb⟩; replace BK380 := qa (blk_below (qK BK380.out) hb); replace HB := qa (below_step (qB) hb); (try clear hb); (try clear hb2); (try clear hk); (try clear hi)) | (go_at_call 39; (with_reducible refine (impl_isPlain.calls _ _ l2 t383 _ ?side1 ?side2 A10.out).mono ?_); (case side1 => exact qC (Kd.C_below HR2.out HB.out)); (case side2 => exact HC2.out); rintro e w12 ⟨rfl, hb⟩; replace BK380 := qa (blk_below (qK BK380.out) hb); replace HB := qa (below_step (qB) hb); (try clear hb); (try clear hb2); (try clear hk); (try clear hi)))
    go_meet
    case rel => exact ⟨_, (!t383), qS, H', ⟨by first | omega | exact Nat.le_refl _⟩, ⟨qK BK380.out⟩, ⟨qB⟩⟩
   ·replace c9 := Bool.eq_false_iff.mpr c9;subst c9;rw [if_neg (show ¬ (false = true) by decide)] at H;have H' := qa H;clear H;go_wp2_with (first | (go_at_call 37; (with_reducible refine (impl_isLaid.calls a0 true _ A6.out).mono ?_); rintro e w' ⟨rfl, ⟨nd, rfl⟩⟩) | (go_at_call 38; (with_reducible refine (impl_GoodTerm.calls k a0 a1 _ _ l2 false _ ?side1 ?side2 A8.out).mono ?_); (case side1 => exact qC (Kd.C_below HR2.out (qB))); (case side2 => exact HC2.out); rintro e w13 ⟨rfl, hb⟩; replace BK380 := qa (blk_below (qK BK380.out) hb); replace HB := qa (below_step (qB) hb); (try clear hb); (try clear hb2); (try clear hk); (try clear hi)))
    go_meet
    case rel => exact ⟨_, (true), qS, H', ⟨by first | omega | exact Nat.le_refl _⟩, ⟨qK BK380.out⟩, ⟨qB⟩⟩
  ·replace c7 := Bool.eq_false_iff.mpr c7;subst c7;rw [if_neg (show ¬ (false = true) by decide)] at H;have H' := qa H;clear H;go_wp2_with (first | (go_at_call 37; (with_reducible refine (impl_isLaid.calls a0 false _ A6.out).mono ?_); rintro e w' ⟨rfl, ⟨nd, rfl⟩⟩))
   go_meet
   case rel => exact ⟨_, (true), qS, H', ⟨by first | omega | exact Nat.le_refl _⟩, ⟨qK BK380.out⟩, ⟨qB⟩⟩
 case rest =>
  clear HC4;obtain ⟨kq, x23_3, rfl, HA, HJ3, BK380, HB⟩ := hcut;cases kq with
  | zero => exact absurd HA.out (by simp [impl_GatesFor.j0])
  | succ kj3 =>
   have H := HA.out;clear HA;simp only [impl_GatesFor.j0] at H;by_cases c14 : x23_3 = true
   ·subst c14;rw [if_pos rfl] at H;simp only [Option.some.injEq, Prod.mk.injEq] at H;obtain ⟨rfl, rfl, rfl, rfl⟩ := H;have hcz15 := blk_cell BK380.out;have hcz15_1 := blk_cell BK380.out 1;have hcz15_2 := blk_cell BK380.out 2;have hfz15 := blk_frozen BK380.out;have hfz15_1 := blk_frozen BK380.out 1;have hfz15_2 := blk_frozen BK380.out 2;go_wp2
    refine bodyPost_ret (results_ct rfl _ _ gb380 37 #[.int .i64 0, .slice none 0 0, .slice none 0 0] (0, 0) _ rfl (qP BK380.out) Tryz.underlying37 rfl (by kernel_rfl)) rfl ?_;exact ⟨_, _, qE, by first | exact Kd.R_nil _ _ _ _ _ | exact Kd.N_nil _ _ _ _ _ | exact Kd.V_nil _ _ _ _ _ | exact Kd.Q_nil _ _ _ _ _ | exact Kd.S_nil _ _ _ _ _, by first | exact Kd.R_nil _ _ _ _ _ | exact Kd.N_nil _ _ _ _ _ | exact Kd.V_nil _ _ _ _ _ | exact Kd.Q_nil _ _ _ _ _ | exact Kd.S_nil _ _ _ _ _, qB⟩
   ·replace c14 := Bool.eq_false_iff.mpr c14;subst c14;rw [if_neg (show ¬ (false = true) by decide)] at H;replace H := Option.bind_eq_some_iff.mp H;obtain ⟨⟨t384, t385, t388⟩, A160, H⟩ := H;try dsimp only at H
    have A16 := qa A160;clear A160;replace H := Option.bind_eq_some_iff.mp H;obtain ⟨t392, A170, H⟩ := H;try dsimp only at H
    have A17 := qa A170;clear A170;by_cases c18 : t392 = true
    ·subst c18;rw [if_pos rfl] at H;simp only [Option.some.injEq, Prod.mk.injEq] at H;obtain ⟨rfl, rfl, rfl, rfl⟩ := H;go_wp2_with (first | (go_at_call 40; (with_reducible refine (impl_gatesFor.calls a0 a1 _ _ l2 t384 t385 t388 _ ?side1 ?side2 A16.out).mono ?_); (case side1 => exact qC (Kd.C_below HR2.out HB.out)); (case side2 => exact HC2.out); rintro e w19 ⟨v386, v389, rfl, ho0, ho1, hb⟩; have HO387 := qa (Kd.R_lower ho0 (below_size (qB))); have HO390 := qa (Kd.R_lower ho1 (below_size (qB))); replace BK380 := qa (blk_below (qK BK380.out) hb); replace HB := qa (below_step (qB) hb); (try clear hb); (try clear hb2); (try clear hk); (try clear hi); (try clear ho0); (try clear ho1)) | ((with_reducible refine gate_dst (N := 8) rfl ?_); refine box_event rfl (N := 8) rfl (cs := #[.int .i64 0, .slice none 0 0, .slice none 0 0]) (t := 37) qW ?_; intro gb391 hg w20 hbox hb; replace HO387 := qa (Kd.R_below (qR HO387.out) hb); replace HO390 := qa (Kd.R_below (qR HO390.out) hb); have BK391 := qa (hbox); have GW391 := qg w hg; replace HB := qa (below_step (qB) hb); have NB380_391 := qnl hg (qK BK380.out); have NB391_380 := qng hg (qK BK380.out); replace BK380 := qa (blk_below (qK BK380.out) hb); clear hb hbox hg; have hnb21 := NB391_380.out; have hnc21 := NB380_391.out; have hcz22 := blk_cell BK391.out; have hfz22 := blk_frozen BK391.out; obtain ⟨Ao23, co23, eo23⟩ := Kd.R_slice HO387.out; subst eo23; obtain ⟨Ao24, co24, eo24⟩ := Kd.R_slice HO390.out; subst eo24) | (go_at_call 41; (with_reducible refine (impl_GoodCircuit.calls kj3 t384 _ _ t385 _ _ t388 true _ ?side1 ?side2 ?side3 ?side4 A17.out).mono ?_); (case side1 => refine (Kd.R_reads' (e := 75) (base := w.heap.size) (ok := fun k_ => True) (n := t385.length) (c := co23) ?_).2.2; exact (by (with_reducible repeat (first | apply Kd.R_alloc | apply Kd.R_drewN | apply Kd.R_drew)); exact (Kd.R_mono (Kd.R_far (p := ⟨gb391, 2, none⟩) (Kd.R_far (p := ⟨gb391, 1, none⟩) (Kd.R_far (p := ⟨gb391, 0, none⟩) (Kd.R_types HO387.out BK391.out (by decide)) (fun _ hk => hk.2) (.int .i64 t384)) (fun _ hk => hk.2) (.slice Ao23 t385.length co23)) (fun _ hk => hk.2) (.slice Ao24 t388.length co24)) (fun _ h_ => h_.1)))); (case side2 => exact (Kd.R_reads' HO387.out).2.1); (case side3 => refine (Kd.R_reads' (e := 3) (base := w.heap.size) (ok := fun k_ => True) (n := t388.length) (c := co24) ?_).2.2; exact (by (with_reducible repeat (first | apply Kd.R_alloc | apply Kd.R_drewN | apply Kd.R_drew)); exact (Kd.R_mono (Kd.R_far (p := ⟨gb391, 2, none⟩) (Kd.R_far (p := ⟨gb391, 1, none⟩) (Kd.R_far (p := ⟨gb391, 0, none⟩) (Kd.R_types HO390.out BK391.out (by decide)) (fun _ hk => hk.2) (.int .i64 t384)) (fun _ hk => hk.2) (.slice Ao23 t385.length co23)) (fun _ hk => hk.2) (.slice Ao24 t388.length co24)) (fun _ h_ => h_.1)))); (case side4 => exact (Kd.R_reads' HO390.out).2.1); rintro e w25 ⟨rfl, hb⟩; replace HO387 := qa (Kd.R_below (by (with_reducible repeat (first | apply Kd.R_alloc | apply Kd.R_drewN | apply Kd.R_drew)); exact (Kd.R_mono (Kd.R_far (p := ⟨gb391, 2, none⟩) (Kd.R_far (p := ⟨gb391, 1, none⟩) (Kd.R_far (p := ⟨gb391, 0, none⟩) (Kd.R_types HO387.out BK391.out (by decide)) (fun _ hk => hk.2) (.int .i64 t384)) (fun _ hk => hk.2) (.slice Ao23 t385.length co23)) (fun _ hk => hk.2) (.slice Ao24 t388.length co24)) (fun _ h_ => h_.1))) hb); replace HO390 := qa (Kd.R_below (by (with_reducible repeat (first | apply Kd.R_alloc | apply Kd.R_drewN | apply Kd.R_drew)); exact (Kd.R_mono (Kd.R_far (p := ⟨gb391, 2, none⟩) (Kd.R_far (p := ⟨gb391, 1, none⟩) (Kd.R_far (p := ⟨gb391, 0, none⟩) (Kd.R_types HO390.out BK391.out (by decide)) (fun _ hk => hk.2) (.int .i64 t384)) (fun _ hk => hk.2) (.slice Ao23 t385.length co23)) (fun _ hk => hk.2) (.slice Ao24 t388.length co24)) (fun _ h_ => h_.1))) hb); replace BK380 := qa (blk_below (g := gb380) (o := .cells #[.int .i64 0, .slice none 0 0, .slice none 0 0] 37 (0, 0)) (qF BK380.out) hb); replace BK391 := qa (blk_below (g := gb391) (o := .cells #[.int .i64 t384, .slice Ao23 t385.length co23, .slice Ao24 t388.length co24] 37 (0, 0)) (qP BK391.out) hb); replace HB := qa (below_step (qB) hb); (try clear hb); (try clear hb2); (try clear hk); (try clear hi); have hcz26 := blk_cell BK391.out; have hfz26 := blk_frozen BK391.out; have hcz27 := blk_cell BK380.out; have hfz27 := blk_frozen BK380.out))
     refine bodyPost_ret (results_ct rfl _ _ gb380 37 #[.int .i64 t384, .slice Ao23 t385.length co23, .slice Ao24 t388.length co24] (0, 0) _ rfl (qP BK380.out) Tryz.underlying37 rfl (by kernel_rfl)) rfl ?_;exact ⟨_, _, qE, by (with_reducible repeat (first | apply Kd.R_alloc | apply Kd.R_drewN | apply Kd.R_drew)); exact Kd.R_mono (Kd.R_far (p := ⟨gb380, 2, none⟩) (Kd.R_far (p := ⟨gb380, 1, none⟩) (Kd.R_far (p := ⟨gb380, 0, none⟩) (Kd.R_types HO387.out BK380.out (by decide)) (fun _ hk => hk.2) (.int .i64 t384)) (fun _ hk => hk.2) (.slice Ao23 t385.length co23)) (fun _ hk => hk.2) (.slice Ao24 t388.length co24)) (fun _ hk => trivial), by (with_reducible repeat (first | apply Kd.R_alloc | apply Kd.R_drewN | apply Kd.R_drew)); exact Kd.R_mono (Kd.R_far (p := ⟨gb380, 2, none⟩) (Kd.R_far (p := ⟨gb380, 1, none⟩) (Kd.R_far (p := ⟨gb380, 0, none⟩) (Kd.R_types HO390.out BK380.out (by decide)) (fun _ hk => hk.2) (.int .i64 t384)) (fun _ hk => hk.2) (.slice Ao23 t385.length co23)) (fun _ hk => hk.2) (.slice Ao24 t388.length co24)) (fun _ hk => trivial), qB⟩
    ·replace c18 := Bool.eq_false_iff.mpr c18;subst c18;rw [if_neg (show ¬ (false = true) by decide)] at H;simp only [Option.some.injEq, Prod.mk.injEq] at H;obtain ⟨rfl, rfl, rfl, rfl⟩ := H;go_wp2_with (first | (go_at_call 40; (with_reducible refine (impl_gatesFor.calls a0 a1 _ _ l2 t384 t385 t388 _ ?side1 ?side2 A16.out).mono ?_); (case side1 => exact qC (Kd.C_below HR2.out HB.out)); (case side2 => exact HC2.out); rintro e w28 ⟨v386, v389, rfl, ho0, ho1, hb⟩; have HO387 := qa (Kd.R_lower ho0 (below_size (qB))); have HO390 := qa (Kd.R_lower ho1 (below_size (qB))); replace BK380 := qa (blk_below (qK BK380.out) hb); replace HB := qa (below_step (qB) hb); (try clear hb); (try clear hb2); (try clear hk); (try clear hi); (try clear ho0); (try clear ho1)) | ((with_reducible refine gate_dst (N := 8) rfl ?_); refine box_event rfl (N := 8) rfl (cs := #[.int .i64 0, .slice none 0 0, .slice none 0 0]) (t := 37) qW ?_; intro gb391 hg w29 hbox hb; replace HO387 := qa (Kd.R_below (qR HO387.out) hb); replace HO390 := qa (Kd.R_below (qR HO390.out) hb); have BK391 := qa (hbox); have GW391 := qg w hg; replace HB := qa (below_step (qB) hb); have NB380_391 := qnl hg (qK BK380.out); have NB391_380 := qng hg (qK BK380.out); replace BK380 := qa (blk_below (qK BK380.out) hb); clear hb hbox hg; have hnb30 := NB391_380.out; have hnc30 := NB380_391.out; have hcz31 := blk_cell BK391.out; have hfz31 := blk_frozen BK391.out; obtain ⟨Ao32, co32, eo32⟩ := Kd.R_slice HO387.out; subst eo32; obtain ⟨Ao33, co33, eo33⟩ := Kd.R_slice HO390.out; subst eo33) | (go_at_call 41; (with_reducible refine (impl_GoodCircuit.calls kj3 t384 _ _ t385 _ _ t388 false _ ?side1 ?side2 ?side3 ?side4 A17.out).mono ?_); (case side1 => refine (Kd.R_reads' (e := 75) (base := w.heap.size) (ok := fun k_ => True) (n := t385.length) (c := co32) ?_).2.2; exact (by (with_reducible repeat (first | apply Kd.R_alloc | apply Kd.R_drewN | apply Kd.R_drew)); exact (Kd.R_mono (Kd.R_far (p := ⟨gb391, 2, none⟩) (Kd.R_far (p := ⟨gb391, 1, none⟩) (Kd.R_far (p := ⟨gb391, 0, none⟩) (Kd.R_types HO387.out BK391.out (by decide)) (fun _ hk => hk.2) (.int .i64 t384)) (fun _ hk => hk.2) (.slice Ao32 t385.length co32)) (fun _ hk => hk.2) (.slice Ao33 t388.length co33)) (fun _ h_ => h_.1)))); (case side2 => exact (Kd.R_reads' HO387.out).2.1); (case side3 => refine (Kd.R_reads' (e := 3) (base := w.heap.size) (ok := fun k_ => True) (n := t388.length) (c := co33) ?_).2.2; exact (by (with_reducible repeat (first | apply Kd.R_alloc | apply Kd.R_drewN | apply Kd.R_drew)); exact (Kd.R_mono (Kd.R_far (p := ⟨gb391, 2, none⟩) (Kd.R_far (p := ⟨gb391, 1, none⟩) (Kd.R_far (p := ⟨gb391, 0, none⟩) (Kd.R_types HO390.out BK391.out (by decide)) (fun _ hk => hk.2) (.int .i64 t384)) (fun _ hk => hk.2) (.slice Ao32 t385.length co32)) (fun _ hk => hk.2) (.slice Ao33 t388.length co33)) (fun _ h_ => h_.1)))); (case side4 => exact (Kd.R_reads' HO390.out).2.1); rintro e w34 ⟨rfl, hb⟩; replace HO387 := qa (Kd.R_below (by (with_reducible repeat (first | apply Kd.R_alloc | apply Kd.R_drewN | apply Kd.R_drew)); exact (Kd.R_mono (Kd.R_far (p := ⟨gb391, 2, none⟩) (Kd.R_far (p := ⟨gb391, 1, none⟩) (Kd.R_far (p := ⟨gb391, 0, none⟩) (Kd.R_types HO387.out BK391.out (by decide)) (fun _ hk => hk.2) (.int .i64 t384)) (fun _ hk => hk.2) (.slice Ao32 t385.length co32)) (fun _ hk => hk.2) (.slice Ao33 t388.length co33)) (fun _ h_ => h_.1))) hb); replace HO390 := qa (Kd.R_below (by (with_reducible repeat (first | apply Kd.R_alloc | apply Kd.R_drewN | apply Kd.R_drew)); exact (Kd.R_mono (Kd.R_far (p := ⟨gb391, 2, none⟩) (Kd.R_far (p := ⟨gb391, 1, none⟩) (Kd.R_far (p := ⟨gb391, 0, none⟩) (Kd.R_types HO390.out BK391.out (by decide)) (fun _ hk => hk.2) (.int .i64 t384)) (fun _ hk => hk.2) (.slice Ao32 t385.length co32)) (fun _ hk => hk.2) (.slice Ao33 t388.length co33)) (fun _ h_ => h_.1))) hb); replace BK380 := qa (blk_below (g := gb380) (o := .cells #[.int .i64 0, .slice none 0 0, .slice none 0 0] 37 (0, 0)) (qF BK380.out) hb); replace BK391 := qa (blk_below (g := gb391) (o := .cells #[.int .i64 t384, .slice Ao32 t385.length co32, .slice Ao33 t388.length co33] 37 (0, 0)) (qP BK391.out) hb); replace HB := qa (below_step (qB) hb); (try clear hb); (try clear hb2); (try clear hk); (try clear hi); have hcz35 := blk_cell BK380.out; have hfz35 := blk_frozen BK380.out))
     refine bodyPost_ret (results_ct rfl _ _ gb380 37 #[.int .i64 0, .slice none 0 0, .slice none 0 0] (0, 0) _ rfl (qP BK380.out) Tryz.underlying37 rfl (by kernel_rfl)) rfl ?_;exact ⟨_, _, qE, by first | exact Kd.R_nil _ _ _ _ _ | exact Kd.N_nil _ _ _ _ _ | exact Kd.V_nil _ _ _ _ _ | exact Kd.Q_nil _ _ _ _ _ | exact Kd.S_nil _ _ _ _ _, by first | exact Kd.R_nil _ _ _ _ _ | exact Kd.N_nil _ _ _ _ _ | exact Kd.V_nil _ _ _ _ _ | exact Kd.Q_nil _ _ _ _ _ | exact Kd.S_nil _ _ _ _ _, qB⟩
def impl_kindOf.f (k : Nat) (l0 : List (S53)) : Option (Int) := if 0 ≤ (wrap64 ((l0.length : Int) - 1)) then (if (wrap64 ((l0.length : Int) - 1)) < (l0.length : Int) then ((impl_operandsOf.f k ((rd_T53 l0 (wrap64 ((l0.length : Int) - 1))).f0)).bind fun bt394 => (some bt394.2.2)) else (none)) else (none)
theorem impl_kindOf.mono : ∀ a0 k, LeO (impl_kindOf.f k a0) (impl_kindOf.f (k + 1) a0) := by
 intro a0 k;unfold impl_kindOf.f;have m0 := @impl_operandsOf.mono; exact qM
theorem impl_kindOf.calls (k : Nat) (A0 : Option Addr) (c0 : Nat) (l0 : List (S53)) (r : Int) (w : World) (hr0 : Kd.C k53 w A0 l0.length l0) (hc0 : l0.length ≤ c0) (h : impl_kindOf.f k l0 = some r) :
  Calls Tryz.prog 21 #[.slice A0 l0.length c0] w fun e w' => e = .returned (.int .i64 r) ∧ Drawn0 w w' := by
 have HR0 := qa hr0;have HC0 := qa hc0;clear hr0 hc0;have H := h;unfold impl_kindOf.f at H;clear h;obtain ⟨ji2, hji2⟩ : ∃ j_ : Int, (wrap64 ((l0.length : Int) - 1)) = j_ := ⟨_, rfl⟩;replace H : (if 0 ≤ (ji2) then (if (ji2) < (l0.length : Int) then ((impl_operandsOf.f k ((rd_T53 l0 (ji2)).f0)).bind fun bt394 => (some bt394.2.2)) else (none)) else (none)) = some r := by first | (rw [hji2] at H; exact H) | (simp only [hji2] at H ⊢; exact H)
 have hji2w : (IntKind.i64.wrap ((l0.length : Int) - 1)) = ji2 := (i64_w _).trans hji2;obtain ⟨c3, H⟩ := qI H;have c3b0 : decide (0 ≤ (ji2)) = true := decide_eq_true c3;clear c3;obtain ⟨c4, H⟩ := qI H;have c4b0 : decide ((ji2) < (l0.length : Int)) = true := decide_eq_true c4;clear c4;replace H := Option.bind_eq_some_iff.mp H;obtain ⟨⟨t394, t395, t396⟩, A50, H⟩ := H;try dsimp only at H
 have A5 := qa A50;clear A50;obtain rfl := Option.some.inj H;have p393 : 0 ≤ ((ji2) : Int) := qD;have q393 : (ji2) < (l0.length : Int) := qD;obtain ⟨ad393, e393, hx393_0, hx393_1⟩ := at_T53 HR0.out (ji2) p393 q393;cases e393;replace p393 := eq_true p393;replace q393 := eq_true q393;go_enter Tryz.func21, Tryz.ntmps21
 go_wp2_with (first | ((with_reducible refine gate_callee (f := 42) rfl ?_); refine goesL_ (some 14) rfl rfl Tryz.func42 (by kernel_rfl) rfl #[.int .i64 ((rd_T53 l0 (ji2)).f0)] rfl (by (try simp only [List.map_toArray, List.map_cons, List.map_nil]); first | done | (simp only [hji2]; rfl) | rfl | (simp only [List.length_drop, List.length_take]; rfl)) ?_; (with_reducible refine (impl_operandsOf.calls k ((rd_T53 l0 (ji2)).f0) t394 t395 t396 _ A5.out).mono ?_); rintro e w' ⟨rfl, ⟨nd, rfl⟩⟩))
 go_ret
 exact ⟨by first | rfl | (simp; done) | (simp only [← hji2] <;> (first | rfl | simp)) | (simp [*]; done), qT⟩
def impl_clausesOf.f (a0_0 : Int) (a0_1 : Int) (a0_2 : Int) (a1 : Int) : Option ((List (List Int))) := if a0_0 = 1 then (if a0_1 = 1 then (some (([(([a1] : List Int))] : List (List Int)))) else (some (([(([wrap64 (-a1)] : List Int))] : List (List Int))))) else (if a0_0 = 2 then (some (([(([a1, wrap64 (a0_1 + 1)] : List Int)), (([wrap64 (-a1), wrap64 (-(wrap64 (a0_1 + 1)))] : List Int))] : List (List Int)))) else (if a0_0 = 3 then (some (([(([wrap64 (-a1), wrap64 (a0_1 + 1)] : List Int)), (([wrap64 (-a1), wrap64 (a0_2 + 1)] : List Int)), (([a1, wrap64 (-(wrap64 (a0_1 + 1))), wrap64 (-(wrap64 (a0_2 + 1)))] : List Int))] : List (List Int)))) else (if a0_0 = 4 then (some (([(([a1, wrap64 (-(wrap64 (a0_1 + 1)))] : List Int)), (([a1, wrap64 (-(wrap64 (a0_2 + 1)))] : List Int)), (([wrap64 (-a1), wrap64 (a0_1 + 1), wrap64 (a0_2 + 1)] : List Int))] : List (List Int)))) else (some (([(([wrap64 (-a1), wrap64 (a0_1 + 1), wrap64 (a0_2 + 1)] : List Int)), (([wrap64 (-a1), wrap64 (-(wrap64 (a0_1 + 1))), wrap64 (-(wrap64 (a0_2 + 1)))] : List Int)), (([a1, wrap64 (-(wrap64 (a0_1 + 1))), wrap64 (a0_2 + 1)] : List Int)), (([a1, wrap64 (a0_1 + 1), wrap64 (-(wrap64 (a0_2 + 1)))] : List Int))] : List (List Int)))))))
theorem impl_clausesOf.calls (a0_0 : Int) (a0_1 : Int) (a0_2 : Int) (a1 : Int) (r : List (List Int)) (w : World) (h : impl_clausesOf.f a0_0 a0_1 a0_2 a1 = some r) :
  Calls Tryz.prog 44 #[.agg #[.int .i64 a0_0, .int .i64 a0_1, .int .i64 a0_2], .int .i64 a1] w fun e w' => ∃ v0_ : Value, e = .returned (v0_) ∧ Kd.N (Kd.slice 3 (Kd.int .i64)) 35 w' w.heap.size (fun k_ => (w.heap.size ≤ k_)) v0_ r ∧ Below w.heap.size w w' := by
 have hu75 := Tryz.underlying75;unfold impl_clausesOf.f at h;have hk : (a0_0 = 1 ∧ a0_1 = 1) ∨ (a0_0 = 1 ∧ a0_1 ≠ 1) ∨ a0_0 = 2 ∨ a0_0 = 3 ∨ a0_0 = 4 ∨ (a0_0 ≠ 1 ∧ a0_0 ≠ 2 ∧ a0_0 ≠ 3 ∧ a0_0 ≠ 4) := by omega
 rcases hk with ⟨rfl, rfl⟩ | ⟨rfl, h1⟩ | rfl | rfl | rfl | ⟨h1, h2, h3, h4⟩
 case' inr.inr.inr.inr.inr =>
  have d1 := beq_eq_false_iff_ne.mpr h1;have d2 := beq_eq_false_iff_ne.mpr h2;have d3 := beq_eq_false_iff_ne.mpr h3;have d4 := beq_eq_false_iff_ne.mpr h4;rw [if_neg h1, if_neg h2, if_neg h3, if_neg h4] at h
 case' inr.inl =>
  have d1 := beq_eq_false_iff_ne.mpr h1;rw [if_pos rfl, if_neg h1] at h
 all_goals
  simp (decide := true) only [reduceIte, Option.some.injEq] at h;subst h;go_enter Tryz.func44, Tryz.ntmps44
  go_wp2
  go_quiet (fail)
  go_wp2
  go_ret
  exact ⟨_, rfl, N_newrows' (w := (w.alloc _).drewN _) (n := w.heap.size + 1) (pw_below_drewN (below_alloc (Below.refl _ _) _) _) (by simp) rfl rfl (by simp) (by simp)⟩
def impl_isLiteral.f (a0 : Int) (a1 : Int) : Option (Bool) := if a0 = 0 then (some false) else (if a0 ≥ (wrap64 (-a1)) then (some (decide (a0 ≤ a1))) else (some false))
theorem impl_isLiteral.calls (a0 : Int) (a1 : Int) (r : Bool) (w : World) (h : impl_isLiteral.f a0 a1 = some r) :
  Calls Tryz.prog 101 #[.int .i64 a0, .int .i64 a1] w fun e w' => e = .returned (.bool r) ∧ Drawn0 w w' := by
 have H := h;unfold impl_isLiteral.f at H;clear h;by_cases c3 : a0 = 0
 ·rw [if_pos c3] at H;obtain ⟨c3b0, c3b1⟩ := qb1 c3;clear c3;obtain rfl := Option.some.inj H;go_enter Tryz.func101, Tryz.ntmps101
  go_wp2
  go_ret
  exact ⟨qS, qT⟩
 ·rw [if_neg c3] at H;obtain ⟨c3b0, c3b1⟩ := qb0 c3;by_cases c4 : a0 ≥ (wrap64 (-a1))
  ·rw [if_pos c4] at H;have c4b0 : decide ((wrap64 (-a1)) ≤ a0) = true := decide_eq_true c4;clear c4;obtain rfl := Option.some.inj H;go_enter Tryz.func101, Tryz.ntmps101
   go_wp2
   go_ret
   exact ⟨qS, qT⟩
  ·rw [if_neg c4] at H;have c4b0 : decide ((wrap64 (-a1)) ≤ a0) = false := decide_eq_false c4;clear c4;obtain rfl := Option.some.inj H;go_enter Tryz.func101, Tryz.ntmps101
   go_wp2
   go_ret
   exact ⟨qS, qT⟩
def impl_isClause_any.any {α : Type} (p : α → Option Bool) : List α → Option Bool
 | [] => some false
 | x :: t => (p x).bind fun b => if b = true then some true else impl_isClause_any.any p t
def impl_isClause_any.p (a1 : Int) (x : Int) : Option Bool := (impl_isLiteral.f x a1).bind fun b => some (!b)
def impl_isClause_any.f (l : List Int) (a1 : Int) : Option (Bool) := impl_isClause_any.any (impl_isClause_any.p a1) l
theorem impl_isClause_any.pred (B1 : Nat) (a1 : Int) (x : Int) (W : World) (b : Bool) (hx1 : W.heap[B1]? = some (.cells #[.int .i64 a1] 3 (0, 0))) (h : impl_isClause_any.p a1 x = some b) :
  Calls Tryz.prog 100 #[.int .i64 x, .pointer (some ⟨B1, 0, none⟩)] W fun e w' => e = .returned (.bool b) ∧ Below W.heap.size W w' := by
 have hc : W.cell? ⟨B1, 0, none⟩ = some (.int .i64 a1) := (blk_cell hx1 0).trans rfl;obtain ⟨g, hg, h2⟩ := Option.bind_eq_some_iff.mp h;obtain rfl : (!g) = b := Option.some.inj h2;have HG := qa hg;clear hg h h2 hx1;go_enter Tryz.func100, Tryz.ntmps100
 go_wp2_with (go_at_call 101; (with_reducible refine (impl_isLiteral.calls _ _ g _ HG.out).mono ?_); rintro e w' ⟨rfl, hd⟩; have HD := qa hd; clear hd)
 go_ret
 exact ⟨rfl, by first | exact HD.out | exact HD.out.below | (obtain rfl := HD.out; exact Below.refl _ _)⟩
theorem impl_isClause_any.index (A0 : Option Addr) (c0 : Nat) (l0 : List Int) (B1 : Nat) (a1 : Int) (r : Bool) (w : World) (hr0 : Kd.C (Kd.int .i64) w A0 l0.length l0) (hc0 : l0.length ≤ c0) (hx1 : w.heap[B1]? = some (.cells #[.int .i64 a1] 3 (0, 0))) (h : impl_isClause_any.any (impl_isClause_any.p a1) l0 = some r) :
  Calls Tryz.prog 89 #[.slice A0 l0.length c0, .func (.func 100) #[] #[.pointer (some ⟨B1, 0, none⟩)]] w
   fun e w' => (∃ n : Int, e = .returned (.int .i64 n) ∧ decide (n ≥ 0) = r) ∧ Below w.heap.size w w' := by
 have hm := hr0.2.1;have HR := qa hr0;have HH := qa h;clear hr0 h;have hone : ∀ (x : Int) (W : World), Below w.heap.size w W → ∀ b, (impl_isClause_any.p a1) x = some b → Calls Tryz.prog 100 #[.int .i64 x, .pointer (some ⟨B1, 0, none⟩)] W fun e w' => e = .returned (.bool b) ∧ Below W.heap.size W w' :=
  fun x W hb b h => impl_isClause_any.pred B1 a1 x W b ((hb.block _ (blk_lt hx1)).trans hx1) h
 have HO := qa hone;clear hone hx1;go_enter Tryz.func89, Tryz.ntmps89
 go_wp2
 go_loopg [5, 8] l0.length (fun gg _ s8 wr => ∃ kk : Nat, kk ≤ l0.length ∧ l0.length - kk ≤ gg ∧ s8 = .int .i64 kk ∧ Aside0 (Below w.heap.size w wr) ∧ Aside0 (impl_isClause_any.any (impl_isClause_any.p a1) (l0.drop kk) = some r))
 case atStart => exact ⟨0, Nat.zero_le _, by omega, rfl, ⟨Below.refl _ _⟩, HH⟩
 case round =>
  clear HH;obtain ⟨kk, hkk, hg, rfl, HB, HA⟩ := hrel;by_cases hlt : kk < l0.length
  ·have hltz : (kk : Int) < (l0.length : Int) := (by omega);have h1 := HA.out;rw [List.drop_eq_getElem_cons hlt] at h1;unfold impl_isClause_any.any at h1;obtain ⟨ad, e, hcell⟩ := Kd.at_int HR.out (kk : Int) (by omega) hltz;cases e;replace hcell := (HB.out.cell (World.block_lt_of_cell? w _ hcell)).trans hcell;obtain ⟨y, hy⟩ : ∃ y, rd l0 (kk : Int) = y := ⟨_, rfl⟩;have hget : rd l0 (kk : Int) = l0[kk] := (by unfold rd; rw [Int.toNat_natCast, List.getD_eq_getElem?_getD, List.getElem?_eq_getElem hlt]; rfl);rw [hy] at hcell hget;clear hy;rw [Int.toNat_natCast] at hcell;rw [← hget] at h1;clear hget;obtain ⟨q, hq, h2⟩ := Option.bind_eq_some_iff.mp h1;clear h1;have HQ := qa hq;clear hq;cases q with
   | true =>
    have h3 : true = r := (by simpa using h2);have H3 := qa h3;clear h2 h3;go_wp2_with (go_at_call 100; refine ((HO.out y _ HB.out _ HQ.out)).mono ?_; rintro e w' ⟨rfl, hb⟩; have HB2 := qa (below_step HB.out hb); clear hb)
    go_ret
    exact ⟨⟨_, rfl, by rw [← H3.out]; exact decide_eq_true (by omega)⟩, HB2.out⟩
   | false =>
    have h3 : impl_isClause_any.any (impl_isClause_any.p a1) (l0.drop (kk + 1)) = some r := (by simpa using h2);have H3 := qa h3;clear h2 h3;go_wp2_with (go_at_call 100; refine ((HO.out y _ HB.out _ HQ.out)).mono ?_; rintro e w' ⟨rfl, hb⟩; have HB2 := qa (below_step HB.out hb); clear hb)
    go_roundg (l0.length - (kk + 1));case measure => omega
    case rel => exact ⟨kk + 1, by omega, by omega, by go_num, HB2, H3⟩
  ·have hltz : ¬ (kk : Int) < (l0.length : Int) := (by omega);obtain rfl : kk = l0.length := (by omega);go_wp2
   go_ret
   exact ⟨⟨_, rfl, by have h4 := HA.out; rw [List.drop_length] at h4; unfold impl_isClause_any.any at h4; rw [← Option.some.inj h4]; rfl⟩, HB.out⟩
theorem impl_isClause_any.calls (A0 : Option Addr) (c0 : Nat) (l0 : List Int) (B1 : Nat) (a1 : Int) (r : Bool) (w : World) (hr0 : Kd.C (Kd.int .i64) w A0 l0.length l0) (hc0 : l0.length ≤ c0) (hx1 : w.heap[B1]? = some (.cells #[.int .i64 a1] 3 (0, 0))) (h : impl_isClause_any.f l0 a1 = some r) :
  Calls Tryz.prog 63 #[.slice A0 l0.length c0, .func (.func 100) #[] #[.pointer (some ⟨B1, 0, none⟩)]] w
   fun e w' => e = .returned (.bool r) ∧ Below w.heap.size w w' := by
 have hI := impl_isClause_any.index A0 c0 l0 B1 a1 r w hr0 hc0 hx1 h;clear hr0 h hx1;go_enter Tryz.func63, Tryz.ntmps63
 go_wp2_with (go_at_call 89; refine hI.mono ?_; rintro e w' ⟨⟨n, rfl, hn⟩, hb⟩; have HN := qa hn; have HB := qa hb; clear hn hb)
 go_ret
 exact ⟨by have h1 := HN.out; simp only [ge_iff_le] at h1; first | rfl | (rw [h1]; rfl) | rw [h1], HB.out⟩
def impl_isClause.f (l0 : List Int) (a1 : Int) : Option (Bool) := if (l0.length : Int) ≤ 8 then ((impl_isClause_any.f l0 a1).bind fun t459 => (some (!t459))) else (some false)
theorem impl_isClause.calls (A0 : Option Addr) (c0 : Nat) (l0 : List Int) (a1 : Int) (r : Bool) (w : World) (hr0 : Kd.C (Kd.int .i64) w A0 l0.length l0) (hc0 : l0.length ≤ c0) (h : impl_isClause.f l0 a1 = some r) :
  Calls Tryz.prog 75 #[.slice A0 l0.length c0, .int .i64 a1] w fun e w' => e = .returned (.bool r) ∧ Below w.heap.size w w' := by
 have HR0 := qa hr0;have HC0 := qa hc0;clear hr0 hc0;have HB := qa (Below.refl w.heap.size w);have H := h;unfold impl_isClause.f at H;clear h;by_cases c3 : (l0.length : Int) ≤ 8
 ·rw [if_pos c3] at H;have c3b0 := decide_eq_true c3;have c3b1 : decide (l0.length ≤ 8) = true := decide_eq_true (by omega);clear c3;replace H := Option.bind_eq_some_iff.mp H;obtain ⟨t459, A40, H⟩ := H;try dsimp only at H
  have A4 := qa A40;clear A40;obtain rfl := Option.some.inj H;go_enter Tryz.func75, Tryz.ntmps75
  go_wp2_with (first | ((with_reducible refine gate_dst (N := 3) rfl ?_); refine box_event rfl (N := 3) rfl (cs := #[.int .i64 a1]) (t := 3) qW ?_; intro gb458 hg w5 hbox hb; have BK458 := qa (hbox); have GW458 := qg w hg; replace HB := qa (below_step (qB) hb); clear hb hbox hg; have hcz6 := blk_cell BK458.out; have hfz6 := blk_frozen BK458.out) | (go_at_call 63; (with_reducible refine (impl_isClause_any.calls _ _ l0 _ a1 t459 _ ?side1 ?side2 ?side3 A4.out).mono ?_); (case side1 => exact qC (Kd.C_below HR0.out HB.out)); (case side2 => exact HC0.out); (case side3 => exact qK BK458.out); rintro e w7 ⟨rfl, hb⟩; replace BK458 := qa (blk_below (qK BK458.out) hb); replace HB := qa (below_step (qB) hb); (try clear hb); (try clear hb2); (try clear hk); (try clear hi)))
  go_ret
  exact ⟨qE, qB⟩
 ·rw [if_neg c3] at H;have c3b0 := decide_eq_false c3;have c3b1 : decide (l0.length ≤ 8) = false := decide_eq_false (by omega);clear c3;obtain rfl := Option.some.inj H;go_enter Tryz.func75, Tryz.ntmps75
  go_wp2_with (first | ((with_reducible refine gate_dst (N := 3) rfl ?_); refine box_event rfl (N := 3) rfl (cs := #[.int .i64 a1]) (t := 3) qW ?_; intro gb458 hg w8 hbox hb; have BK458 := qa (hbox); have GW458 := qg w hg; replace HB := qa (below_step (qB) hb); clear hb hbox hg))
  go_ret
  exact ⟨qE, qB⟩
def impl_GoodCnf_any.any {α : Type} (p : α → Option Bool) : List α → Option Bool
 | [] => some false
 | x :: t => (p x).bind fun b => if b = true then some true else impl_GoodCnf_any.any p t
def impl_GoodCnf_any.p (a1 : Int) (x : (List Int)) : Option Bool := (impl_isClause.f x a1).bind fun b => some (!b)
def impl_GoodCnf_any.f (l : List (List Int)) (a1 : Int) : Option (Bool) := impl_GoodCnf_any.any (impl_GoodCnf_any.p a1) l
theorem impl_GoodCnf_any.pred (B1 : Nat) (a1 : Int) (Ac : Option Addr) (nc cc : Nat) (x : (List Int)) (A : Option Addr) (c : Nat) (W : World) (b : Bool) (hx1 : W.heap[B1]? = some (.cells #[.int .i64 a1, .slice Ac nc cc] 47 (0, 0))) (hr : Kd.C (Kd.int .i64) W A x.length x) (hc : x.length ≤ c) (h : impl_GoodCnf_any.p a1 x = some b) :
  Calls Tryz.prog 74 #[.slice A x.length c, .pointer (some ⟨B1, 0, none⟩)] W fun e w' => e = .returned (.bool b) ∧ Below W.heap.size W w' := by
 have hc1 : W.cell? ⟨B1, 0, none⟩ = some (.int .i64 a1) := (blk_cell hx1 0).trans rfl;obtain ⟨g, hg, h2⟩ := Option.bind_eq_some_iff.mp h;obtain rfl : (!g) = b := Option.some.inj h2;have HG := qa hg;have HR := qa hr;clear hg h h2 hx1 hr;go_enter Tryz.func74, Tryz.ntmps74
 go_wp2_with (go_at_call 75; (with_reducible refine (impl_isClause.calls _ _ x _ g _ ?side1 ?side2 HG.out).mono ?_); (case side1 => exact qC HR.out); (case side2 => exact hc); rintro e w' ⟨rfl, hd⟩; have HD := qa hd; clear hd)
 go_ret
 exact ⟨rfl, by first | exact HD.out | exact HD.out.below⟩
theorem impl_GoodCnf_any.index (A0 : Option Addr) (c0 : Nat) (l0 : List (List Int)) (B1 : Nat) (a1 : Int) (Ac : Option Addr) (nc cc : Nat) (r : Bool) (w : World) (hr0 : Kd.C (Kd.slice 3 (Kd.int .i64)) w A0 l0.length l0) (hc0 : l0.length ≤ c0) (hx1 : w.heap[B1]? = some (.cells #[.int .i64 a1, .slice Ac nc cc] 47 (0, 0))) (h : impl_GoodCnf_any.any (impl_GoodCnf_any.p a1) l0 = some r) :
  Calls Tryz.prog 99 #[.slice A0 l0.length c0, .func (.func 74) #[] #[.pointer (some ⟨B1, 0, none⟩)]] w
   fun e w' => (∃ n : Int, e = .returned (.int .i64 n) ∧ decide (n ≥ 0) = r) ∧ Below w.heap.size w w' := by
 have hm := hr0.2.1;have HR := qa hr0;have HH := qa h;clear hr0 h;have hone : ∀ (x : (List Int)) (W : World), Below w.heap.size w W → ∀ (A : Option Addr) (c : Nat), Kd.C (Kd.int .i64) W A x.length x → x.length ≤ c → ∀ b, (impl_GoodCnf_any.p a1) x = some b → Calls Tryz.prog 74 #[.slice A x.length c, .pointer (some ⟨B1, 0, none⟩)] W fun e w' => e = .returned (.bool b) ∧ Below W.heap.size W w' :=
  fun x W hb A c hr hc b h => impl_GoodCnf_any.pred B1 a1 Ac nc cc x A c W b ((hb.block _ (blk_lt hx1)).trans hx1) hr hc h
 have HO := qa hone;clear hone hx1;go_enter Tryz.func99, Tryz.ntmps99
 go_wp2
 go_loopg [5, 8] l0.length (fun gg _ s8 wr => ∃ kk : Nat, kk ≤ l0.length ∧ l0.length - kk ≤ gg ∧ s8 = .int .i64 kk ∧ Aside0 (Below w.heap.size w wr) ∧ Aside0 (impl_GoodCnf_any.any (impl_GoodCnf_any.p a1) (l0.drop kk) = some r))
 case atStart => exact ⟨0, Nat.zero_le _, by omega, rfl, ⟨Below.refl _ _⟩, HH⟩
 case round =>
  clear HH;obtain ⟨kk, hkk, hg, rfl, HB, HA⟩ := hrel;by_cases hlt : kk < l0.length
  ·have hltz : (kk : Int) < (l0.length : Int) := (by omega);have h1 := HA.out;rw [List.drop_eq_getElem_cons hlt] at h1;unfold impl_GoodCnf_any.any at h1;obtain ⟨ad, cs, e, hcsl, hK, hcs⟩ := Kd.C_get HR.out ([] : List Int) (kk : Int) (by omega) hltz;cases e;obtain ⟨A1, c1, rfl, hl1, hr1⟩ := hK;have hcell : w.cell? (ad.add (kk : Int).toNat) = some (.slice A1 (l0.getD (kk : Int).toNat []).length c1) := (by have hq := hcs 0 _ rfl; rwa [show (Kd.slice 3 (Kd.int .i64)).sz = 1 from rfl, Nat.mul_one, Nat.add_zero] at hq);clear hcs hcsl;replace hcell := (HB.out.cell (World.block_lt_of_cell? w _ hcell)).trans hcell;replace hr1 := Kd.C_below hr1 HB.out;have hget : l0.getD (kk : Int).toNat [] = l0[kk] := (by rw [Int.toNat_natCast, List.getD_eq_getElem?_getD, List.getElem?_eq_getElem hlt]; rfl);obtain ⟨y, hy⟩ : ∃ y, l0.getD (kk : Int).toNat [] = y := ⟨_, rfl⟩;rw [hy] at hcell hget hl1 hr1;clear hy;rw [Int.toNat_natCast] at hcell;have HR1 := qa hr1;have HL1 := qa hl1;clear hr1 hl1;rw [← hget] at h1;clear hget;obtain ⟨q, hq, h2⟩ := Option.bind_eq_some_iff.mp h1;clear h1;have HQ := qa hq;clear hq;cases q with
   | true =>
    have h3 : true = r := (by simpa using h2);have H3 := qa h3;clear h2 h3;go_wp2_with (go_at_call 74; refine ((HO.out y _ HB.out _ _ HR1.out HL1.out _ HQ.out)).mono ?_; rintro e w' ⟨rfl, hb⟩; have HB2 := qa (below_step HB.out hb); clear hb)
    go_ret
    exact ⟨⟨_, rfl, by rw [← H3.out]; exact decide_eq_true (by omega)⟩, HB2.out⟩
   | false =>
    have h3 : impl_GoodCnf_any.any (impl_GoodCnf_any.p a1) (l0.drop (kk + 1)) = some r := (by simpa using h2);have H3 := qa h3;clear h2 h3;go_wp2_with (go_at_call 74; refine ((HO.out y _ HB.out _ _ HR1.out HL1.out _ HQ.out)).mono ?_; rintro e w' ⟨rfl, hb⟩; have HB2 := qa (below_step HB.out hb); clear hb)
    go_roundg (l0.length - (kk + 1));case measure => omega
    case rel => exact ⟨kk + 1, by omega, by omega, by go_num, HB2, H3⟩
  ·have hltz : ¬ (kk : Int) < (l0.length : Int) := (by omega);obtain rfl : kk = l0.length := (by omega);go_wp2
   go_ret
   exact ⟨⟨_, rfl, by have h4 := HA.out; rw [List.drop_length] at h4; unfold impl_GoodCnf_any.any at h4; rw [← Option.some.inj h4]; rfl⟩, HB.out⟩
theorem impl_GoodCnf_any.calls (A0 : Option Addr) (c0 : Nat) (l0 : List (List Int)) (B1 : Nat) (a1 : Int) (Ac : Option Addr) (nc cc : Nat) (r : Bool) (w : World) (hr0 : Kd.C (Kd.slice 3 (Kd.int .i64)) w A0 l0.length l0) (hc0 : l0.length ≤ c0) (hx1 : w.heap[B1]? = some (.cells #[.int .i64 a1, .slice Ac nc cc] 47 (0, 0))) (h : impl_GoodCnf_any.f l0 a1 = some r) :
  Calls Tryz.prog 73 #[.slice A0 l0.length c0, .func (.func 74) #[] #[.pointer (some ⟨B1, 0, none⟩)]] w
   fun e w' => e = .returned (.bool r) ∧ Below w.heap.size w w' := by
 have hI := impl_GoodCnf_any.index A0 c0 l0 B1 a1 Ac nc cc r w hr0 hc0 hx1 h;clear hr0 h hx1;go_enter Tryz.func73, Tryz.ntmps73
 go_wp2_with (go_at_call 99; refine hI.mono ?_; rintro e w' ⟨⟨n, rfl, hn⟩, hb⟩; have HN := qa hn; have HB := qa hb; clear hn hb)
 go_ret
 exact ⟨by have h1 := HN.out; simp only [ge_iff_le] at h1; first | rfl | (rw [h1]; rfl) | rw [h1], HB.out⟩
def impl_GoodCnf.f (a0_0 : Int) (l0_1 : List (List Int)) : Option (Bool) := if a0_0 < 0 then some false else if a0_0 > 400 then some false else if (l0_1.length : Int) > 1400 then some false else (impl_GoodCnf_any.f l0_1 a0_0).bind fun b => some (!b)
theorem impl_GoodCnf.calls (a0_0 : Int) (A0_1 : Option Addr) (c0_1 : Nat) (l0_1 : List (List Int)) (r : Bool) (w : World) (hr0_1 : Kd.C (Kd.slice 3 (Kd.int .i64)) w A0_1 l0_1.length l0_1) (hc0_1 : l0_1.length ≤ c0_1) (h : impl_GoodCnf.f a0_0 l0_1 = some r) :
  Calls Tryz.prog 45 #[.agg #[.int .i64 a0_0, .slice A0_1 l0_1.length c0_1]] w fun e w' => e = .returned (.bool r) ∧ Below w.heap.size w w' := by
 have HR := qa hr0_1;clear hr0_1;unfold impl_GoodCnf.f at h;by_cases t0 : a0_0 < 0
 ·rw [if_pos t0] at h;obtain rfl := Option.some.inj h;have b0 : decide (a0_0 < 0) = true := decide_eq_true t0;clear h t0;go_enter Tryz.func45, Tryz.ntmps45
  go_wp2
  go_ret
  exact ⟨rfl, (Below.refl _ _).alloc (Nat.le_refl _) _⟩
 ·rw [if_neg t0] at h;have b0 : decide (a0_0 < 0) = false := decide_eq_false t0;by_cases t1 : a0_0 > 400
  ·rw [if_pos t1] at h;obtain rfl := Option.some.inj h;have b1 : decide (a0_0 > 400) = true := decide_eq_true t1;clear h t0 t1;go_enter Tryz.func45, Tryz.ntmps45
   go_wp2
   go_ret
   exact ⟨rfl, (Below.refl _ _).alloc (Nat.le_refl _) _⟩
  ·rw [if_neg t1] at h;have b1 : decide (a0_0 > 400) = false := decide_eq_false t1;by_cases t2 : (l0_1.length : Int) > 1400
   ·rw [if_pos t2] at h;obtain rfl := Option.some.inj h;have b2 : decide ((l0_1.length : Int) > 1400) = true := decide_eq_true t2;clear h t0 t1;go_enter Tryz.func45, Tryz.ntmps45
    go_wp2
    go_ret
    exact ⟨rfl, (Below.refl _ _).alloc (Nat.le_refl _) _⟩
   ·rw [if_neg t2] at h;have b2 : decide ((l0_1.length : Int) > 1400) = false := decide_eq_false t2;obtain ⟨g, hg, h2⟩ := Option.bind_eq_some_iff.mp h;obtain rfl : (!g) = r := Option.some.inj h2;have HG := qa hg;clear h h2 hg t0 t1;go_enter Tryz.func45, Tryz.ntmps45
    go_wp2_with (first | ((with_reducible refine gate_dst (N := 1) rfl ?_); refine box_event rfl (N := 1) rfl (cs := #[.int .i64 a0_0, .slice A0_1 l0_1.length c0_1]) (t := 47) qW ?_; intro gb hg w2 hbox hb; have HBK := qa hbox; have HB := qa hb; have hz0 : w2.cell? ⟨gb, 0, none⟩ = some (.int .i64 a0_0) := (blk_cell hbox 0).trans rfl; have hz1 : w2.cell? ⟨gb, 1, none⟩ = some (.slice A0_1 l0_1.length c0_1) := (blk_cell hbox 1).trans rfl; clear hbox hb hg) | (go_at_call 73; refine (impl_GoodCnf_any.calls A0_1 c0_1 l0_1 gb a0_0 A0_1 l0_1.length c0_1 g _ ?side1 hc0_1 ?side3 HG.out).mono ?_; (case side1 => exact qC (Kd.C_below HR.out HB.out)); (case side3 => (with_reducible repeat (first | refine blk_drewN ?_ _ | refine blk_drew ?_ | refine blk_alloc ?_ _)); exact HBK.out); rintro e w3 ⟨rfl, hb⟩; have HB2 := qa (below_step (qB) hb); clear hb))
    go_ret
    exact ⟨rfl, HB2.out⟩
end Go.Proofs.YtgdmdaalmoioeaaGreat.X
