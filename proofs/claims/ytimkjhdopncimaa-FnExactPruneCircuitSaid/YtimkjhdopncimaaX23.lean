/- Go functions as Lean functions, each with the proof that its call comes to just its answer. Conditions: the arguments are of their kinds. -/
import Derived.Test.YtimkjhdopncimaaX0
namespace Go.Proofs.Ytimkjhdopncimaa.X
open Go.RowKit Go.Proofs.YtimkjhdopncimaaW.PrintWords Go.Proofs.YtimkjhdopncimaaW.PrintLast Go.Proofs.YtimkjhdopncimaaW.PrintMore
attribute [local go_sem] max2_int min2_int max_two min_two max_three min_three max_four min_four   -- for this text's walks alone
set_option linter.unusedVariables false
set_option linter.unusedSimpArgs false

/-! ### spec_l1Put: function 77 -/
def spec_l1Put.l0 : Nat → List Int → Int → Int → Option (List Int)
 | 0, _, _, _ => none
 | k + 1, x0, x1, x5 => if x5 < (x0.length : Int) then (if 0 ≤ x5 then (if (rd x0 x5) < x1 then (spec_l1Put.l0 k x0 x1 (wrap64 (x5 + 1))) else (if (rd x0 x5) = x1 then (some x0) else ((some (([] : List Int) : List Int)).bind fun y474 => (if x5 ≤ (x0.length : Int) then ((some (x0.take (x5 : Int).toNat : List Int)).bind fun y477 => (if y474.length + y477.length < 17592186044416 then ((some (y474 ++ y477 : List Int)).bind fun y481 => (if y481.length < 17592186044416 then ((some (y481 ++ [x1] : List Int)).bind fun y484 => ((some (x0.drop (x5 : Int).toNat : List Int)).bind fun y487 => (if y484.length + y487.length < 17592186044416 then (some (y484 ++ y487)) else (none)))) else (none))) else (none))) else (none))))) else (none)) else ((some (([] : List Int) : List Int)).bind fun y494 => (if 0 ≤ x5 then (if x5 ≤ (x0.length : Int) then ((some (x0.take (x5 : Int).toNat : List Int)).bind fun y497 => (if y494.length + y497.length < 17592186044416 then ((some (y494 ++ y497 : List Int)).bind fun y501 => (if y501.length < 17592186044416 then ((some (y501 ++ [x1] : List Int)).bind fun y504 => ((some (x0.drop (x5 : Int).toNat : List Int)).bind fun y507 => (if y504.length + y507.length < 17592186044416 then (some (y504 ++ y507)) else (none)))) else (none))) else (none))) else (none)) else (none)))
def spec_l1Put.f (k : Nat) (l0 : List Int) (a1 : Int) : Option (List Int) := spec_l1Put.l0 k l0 a1 0
theorem spec_l1Put.mono_l : ∀ k, (∀ y0 y1 y2, LeO (spec_l1Put.l0 k y0 y1 y2) (spec_l1Put.l0 (k + 1) y0 y1 y2))
 | 0 => fun _ _ _ r h => by simp [spec_l1Put.l0] at h
 | k + 1 => by
  have ih0 := spec_l1Put.mono_l k
  ·intro y0 y1 y2
   unfold spec_l1Put.l0
   repeat' first
   | (with_reducible exact ih0 _ _ _)
   | (with_reducible first | exact LeO.refl _ | exact LeO.none _ | refine LeO.ite ?_ ?_ | refine LeO.bind ?_ (fun _ => ?_))
   | exact ih0 _ _ _
   | exact LeO.none _ | refine LeO.ite ?_ ?_ | refine LeO.bind ?_ (fun _ => ?_)
theorem spec_l1Put.mono : ∀ a0 a1 k, LeO (spec_l1Put.f k a0 a1) (spec_l1Put.f (k + 1) a0 a1) := by
 intro a0 a1 k
 have ih0 := spec_l1Put.mono_l k
 unfold spec_l1Put.f
 repeat' first
   | (with_reducible exact ih0 _ _ _)
   | (with_reducible first | exact LeO.refl _ | exact LeO.none _ | refine LeO.ite ?_ ?_ | refine LeO.bind ?_ (fun _ => ?_))
   | exact ih0 _ _ _
   | exact LeO.none _ | refine LeO.ite ?_ ?_ | refine LeO.bind ?_ (fun _ => ?_)
set_option maxHeartbeats 8000000 in
set_option maxRecDepth 100000 in
theorem spec_l1Put.calls (k : Nat) (P0_ : Nat → Prop) (u9000_ : Value) (l0 : List Int) (a1 : Int) (r : List Int) (w0 w : World) (hB : Below w0.heap.size w0 w) (ho0 : Kd.R (Kd.int .i64) 3 w w0.heap.size P0_ u9000_ l0) (h : spec_l1Put.f k l0 a1 = some r) :
  Calls Try.prog 77 #[u9000_, .int .i64 a1] w fun e w' => ∃ v0_ : Value, e = .returned (v0_) ∧ Kd.R (Kd.int .i64) 3 w' w0.heap.size (fun k_ => (P0_ k_ ∨ w.heap.size ≤ k_)) v0_ r ∧ Below w0.heap.size w0 w' ∧ Kept w w' (fun k_ => P0_ k_) := by
 have HO0 := Aside0.mk (show Kd.R (Kd.int .i64) 3 w w0.heap.size (fun k_ => (P0_ k_ ∨ w.heap.size ≤ k_)) u9000_ l0 from Kd.R_mono ho0 (fun k_ hk => (.inl hk)))
 have HK := Aside0.mk (Kept.refl w (fun k_ => P0_ k_))
 have HW0 := Aside0.mk hB.size
 have HB := Aside0.mk hB
 clear hB
 have H : (spec_l1Put.l0 k l0 a1 0) = some r := h
 clear h
 have H' := Aside0.mk H
 clear H
 go_enter Try.func77, Try.ntmps77
 go_wp2
 go_loopg [5] k (fun kq v5 w' => ∃ (x5_1 : Int), v5 = .int .i64 x5_1 ∧ Aside0 (spec_l1Put.l0 kq l0 a1 x5_1 = some r) ∧ Aside0 (kq ≤ k) ∧ Aside0 (Kd.R (Kd.int .i64) 3 w' w0.heap.size (fun k_ => (P0_ k_ ∨ w.heap.size ≤ k_)) u9000_ l0) ∧ Aside0 (Kept w w' (fun k_ => P0_ k_)) ∧ Aside0 (Below w0.heap.size w0 w'))
 case atStart => exact ⟨(0), qS, H', ⟨Nat.le_refl _⟩, ⟨qR HO0.out⟩, ⟨qH⟩, ⟨qB⟩⟩
 case round =>
  clear H'
  try clear p2
  obtain ⟨x5_1, rfl, HA, HK1, HO_0, HK, HB⟩ := hrel
  cases gk with
  | zero => exact absurd HA.out (by simp [spec_l1Put.l0])
  | succ k1 =>
   have H := HA.out
   clear HA
   simp only [spec_l1Put.l0] at H
   by_cases c3 : x5_1 < (l0.length : Int)
   ·rw [if_pos c3] at H
    have c3b0 : decide (x5_1 < (l0.length : Int)) = true := decide_eq_true c3
    clear c3
    by_cases c4 : 0 ≤ x5_1
    ·rw [if_pos c4] at H
     have c4b0 : decide (0 ≤ x5_1) = true := decide_eq_true c4
     clear c4
     by_cases c5 : (rd l0 x5_1) < a1
     ·rw [if_pos c5] at H
      have c5b0 : decide ((rd l0 x5_1) < a1) = true := decide_eq_true c5
      clear c5
      have H' := Aside0.mk H
      clear H
      obtain ⟨Ao6, co6, eo6⟩ := Kd.R_slice HO_0.out
      subst eo6
      have p472 : 0 ≤ (x5_1 : Int) := qD
      have q472 : x5_1 < (l0.length : Int) := qD
      obtain ⟨ad472, e472, hx472_0⟩ := Kd.at_int (Kd.R_reads' HO_0.out).2.2 x5_1 p472 q472
      cases e472
      replace p472 := eq_true p472
      replace q472 := eq_true q472
      go_wp2
      go_roundg k1
      case measure => have := HK1.out; omega
      case rel => exact ⟨(wrap64 (x5_1 + 1)), qS, H', ⟨by have := HK1.out; omega⟩, ⟨qR HO_0.out⟩, ⟨qH⟩, ⟨qB⟩⟩
     ·rw [if_neg c5] at H
      have c5b0 : decide ((rd l0 x5_1) < a1) = false := decide_eq_false c5
      clear c5
      by_cases c7 : (rd l0 x5_1) = a1
      ·rw [if_pos c7] at H
       have c7b0 : ((rd l0 x5_1) == a1) = true := beq_iff_eq.mpr c7
       have c7b1 : ((rd l0 x5_1) != a1) = false := bne_eq_false_iff_eq.mpr c7
       clear c7
       obtain rfl := Option.some.inj H
       obtain ⟨Ao8, co8, eo8⟩ := Kd.R_slice HO_0.out
       subst eo8
       have p472 : 0 ≤ (x5_1 : Int) := qD
       have q472 : x5_1 < (l0.length : Int) := qD
       obtain ⟨ad472, e472, hx472_0⟩ := Kd.at_int (Kd.R_reads' HO_0.out).2.2 x5_1 p472 q472
       cases e472
       replace p472 := eq_true p472
       replace q472 := eq_true q472
       have p473 : 0 ≤ (x5_1 : Int) := qD
       have q473 : x5_1 < (l0.length : Int) := qD
       obtain ⟨ad473, e473, hx473_0⟩ := Kd.at_int (Kd.R_reads' HO_0.out).2.2 x5_1 p473 q473
       obtain rfl : ad472 = ad473 := (by injection e473)
       replace p473 := eq_true p473
       replace q473 := eq_true q473
       go_wp2
       go_ret
       exact ⟨_, qE, qR HO_0.out, qB, qH⟩
      ·rw [if_neg c7] at H
       have c7b0 : ((rd l0 x5_1) == a1) = false := beq_eq_false_iff_ne.mpr c7
       have c7b1 : ((rd l0 x5_1) != a1) = true := bne_iff_ne.mpr c7
       obtain ⟨y474, hy474⟩ : ∃ y_ : List Int, y_ = (([] : List Int)) := ⟨_, rfl⟩
       replace H : (if x5_1 ≤ (l0.length : Int) then ((some (l0.take (x5_1 : Int).toNat : List Int)).bind fun y477 => (if y474.length + y477.length < 17592186044416 then ((some (y474 ++ y477 : List Int)).bind fun y481 => (if y481.length < 17592186044416 then ((some (y481 ++ [a1] : List Int)).bind fun y484 => ((some (l0.drop (x5_1 : Int).toNat : List Int)).bind fun y487 => (if y484.length + y487.length < 17592186044416 then (some (y484 ++ y487)) else (none)))) else (none))) else (none))) else (none)) = some r := qY hy474 H
       have Ny474 := Aside0.mk hy474
       clear hy474
       have c9b0 := eq_true (qD : 0 ≤ x5_1)
       by_cases c10 : x5_1 ≤ (l0.length : Int)
       ·rw [if_pos c10] at H
        have c10b0 := eq_true c10
        have c10b1 : decide (x5_1 ≤ (l0.length : Int)) = true := decide_eq_true c10
        clear c10
        obtain ⟨y477, hy477⟩ : ∃ y_ : List Int, y_ = (l0.take (x5_1 : Int).toNat) := ⟨_, rfl⟩
        replace H : (if y474.length + y477.length < 17592186044416 then ((some (y474 ++ y477 : List Int)).bind fun y481 => (if y481.length < 17592186044416 then ((some (y481 ++ [a1] : List Int)).bind fun y484 => ((some (l0.drop (x5_1 : Int).toNat : List Int)).bind fun y487 => (if y484.length + y487.length < 17592186044416 then (some (y484 ++ y487)) else (none)))) else (none))) else (none)) = some r := qY hy477 H
        have Ny477 := Aside0.mk hy477
        clear hy477
        by_cases c11 : y474.length + y477.length < 17592186044416
        ·rw [if_pos c11] at H
         have LMc11 := Aside0.mk c11
         clear c11
         obtain ⟨y481, hy481⟩ : ∃ y_ : List Int, y_ = (y474 ++ y477) := ⟨_, rfl⟩
         replace H : (if y481.length < 17592186044416 then ((some (y481 ++ [a1] : List Int)).bind fun y484 => ((some (l0.drop (x5_1 : Int).toNat : List Int)).bind fun y487 => (if y484.length + y487.length < 17592186044416 then (some (y484 ++ y487)) else (none)))) else (none)) = some r := qY hy481 H
         have Ny481 := Aside0.mk hy481
         clear hy481
         by_cases c12 : y481.length < 17592186044416
         ·rw [if_pos c12] at H
          have LMc12 := Aside0.mk c12
          clear c12
          obtain ⟨y484, hy484⟩ : ∃ y_ : List Int, y_ = (y481 ++ [a1]) := ⟨_, rfl⟩
          replace H : ((some (l0.drop (x5_1 : Int).toNat : List Int)).bind fun y487 => (if y484.length + y487.length < 17592186044416 then (some (y484 ++ y487)) else (none))) = some r := qY hy484 H
          have Ny484 := Aside0.mk hy484
          clear hy484
          have c13b0 := eq_true (qD : 0 ≤ x5_1)
          have c14b0 := eq_true (qD : x5_1 ≤ (l0.length : Int))
          obtain ⟨y487, hy487⟩ : ∃ y_ : List Int, y_ = (l0.drop (x5_1 : Int).toNat) := ⟨_, rfl⟩
          replace H : (if y484.length + y487.length < 17592186044416 then (some (y484 ++ y487)) else (none)) = some r := qY hy487 H
          have Ny487 := Aside0.mk hy487
          clear hy487
          by_cases c15 : y484.length + y487.length < 17592186044416
          ·rw [if_pos c15] at H
           have LMc15 := Aside0.mk c15
           clear c15
           obtain ⟨y491, hy491⟩ : ∃ y_ : List Int, y_ = (y484 ++ y487) := ⟨_, rfl⟩
           replace H : (some y491) = some r := qY hy491 H
           have Ny491 := Aside0.mk hy491
           clear hy491
           obtain rfl := Option.some.inj H
           obtain ⟨Ao16, co16, eo16⟩ := Kd.R_slice HO_0.out
           subst eo16
           have p472 : 0 ≤ (x5_1 : Int) := qD
           have q472 : x5_1 < (l0.length : Int) := qD
           obtain ⟨ad472, e472, hx472_0⟩ := Kd.at_int (Kd.R_reads' HO_0.out).2.2 x5_1 p472 q472
           cases e472
           replace p472 := eq_true p472
           replace q472 := eq_true q472
           have p473 : 0 ≤ (x5_1 : Int) := qD
           have q473 : x5_1 < (l0.length : Int) := qD
           obtain ⟨ad473, e473, hx473_0⟩ := Kd.at_int (Kd.R_reads' HO_0.out).2.2 x5_1 p473 q473
           obtain rfl : ad472 = ad473 := (by injection e473)
           replace p473 := eq_true p473
           replace q473 := eq_true q473
           go_wp2_with (first | ((with_reducible refine gate_dst (N := 34) rfl ?_); refine Kd.R_lit (Kd.int .i64) _ 3 ?hg (N := 34) ?hd (xs := ([] : List Int)) (inner := []) (ok := fun _ => True) (okp := fun _ => True) ?hr ?hp (fun _ hk => hk) trivial (Below.refl _ _) (Nat.le_refl _) (by simp) ?_; (case hd => rfl); (case hg => rfl); (case hr => first | (go_simp; done) | (go_simp; rfl)); (case hp => exact (Reps.none _ _)); intro v475 w17 ho18 hb hg_ hnew_; clear hg_ hnew_; (first | rw [← Ny474.out] at ho18 | (simp only [Int.reduceToNat] at ho18; rw [← Ny474.out] at ho18)); have n0_ := Aside0.mk (Kd.R_elder' (qR HO_0.out) (Kd.R_base ho18) hb); have n1_ := Aside0.mk (Kd.R_lower (Kd.R_new' (Kd.R_newM (M := fun k_ => (P0_ k_ ∨ w.heap.size ≤ k_)) ho18 (by first | exact HK.out.1 | exact (show Kept w _ (fun k_ => P0_ k_) from qH).1) (fun k_ h_ => .inr h_)) (Kd.R_lt (qR HO_0.out))) (below_size (qB))); have n2_ := Aside0.mk (Kept.below (S := (fun k_ => P0_ k_)) (qH) hb); have n3_ := Aside0.mk (below_step (qB) hb); clear HO_0; clear HK; clear HB; have HO_0 := n0_; have HO476 := n1_; have HK := n2_; have HB := n3_; clear n0_ n1_ n2_ n3_; clear hb ho18; have q19 : (x5_1 : Int) ≤ ((l0.length : Int) : Int) := qD; obtain ⟨i019, hi019, _, hsz19, _⟩ := info_parts info3; have hroom19 : l0.length ≤ co16 := (Kd.R_reads' HO_0.out).2.1; have hC19 : Kd.C (Kd.int .i64) _ (some ad472) l0.length l0 := (Kd.R_reads' HO_0.out).2.2; have hcut19 := cut_to (P := Try.prog) 23 3 .i64 Try.underlying23 hi019 (some ad472) l0.length co16 x5_1 qD q19 hroom19; have hr19 := Kd.C_take (m := (x5_1 : Int).toNat) hC19 (by omega); have hy19 : y477.length = (x5_1 : Int).toNat := (by rw [Ny477.out, List.length_take]; omega); rw [← Ny477.out] at hr19; rw [← hy19] at hcut19; have HR480 := Aside0.mk hr19; have HC480 := Aside0.mk (show y477.length ≤ co16 from by omega); clear hr19 hC19 hroom19 hi019 hsz19; have KY19 := Aside0.mk hy19; clear hy19; have KL19 := Aside0.mk (show (x5_1 : Int).toNat ≤ l0.length from by omega); replace q19 := eq_true q19) | ((with_reducible refine gate_builtin (b := .append) (xs := #[.tmp 34, .tmp 37]) rfl ?_); at_builtin; refine Kd.R_append_rows (Kd.int .i64) (w0 := w0) w0.heap.size rfl (.tmp 34) (.tmp 37) 23 3 (.int .i64 0) 8 rfl Try.underlying23 info3 rfl (by decide) (by omega) v475 y474 y477 _ _ _ (fun k_ => (P0_ k_ ∨ w.heap.size ≤ k_) ∧ some k_ ≠ (.slice (some ad472) l0.length co16 : Value).ownBlock) (fun _ => False) rfl rfl ?aO ?aR (fun _ _ h => h) (fun _ h => h.elim) ?aF ?aB ?aS ?aL ?_; (case aR => repeat (first | exact (by repeat (first | (with_reducible exact HR480.out) | (with_reducible refine Kd.C_alloc ?_ _) | (with_reducible refine Kd.C_drewN ?_ _) | (with_reducible refine Kd.C_drew ?_) | exact HR480.out)) | (with_reducible refine Kd.C_alloc ?_ _) | (with_reducible refine Kd.C_drewN ?_ _) | (with_reducible refine Kd.C_drew ?_))); (case aB => exact (qB)); (case aF => exact (fun k_ hk => ⟨(.inr (Nat.le_trans (by first | exact HK.out.1 | exact (show Kept w _ (fun k_ => P0_ k_) from qH).1) hk)), Kd.fresh' (Kd.R_lt (qR HO_0.out)) k_ hk⟩)); (case aO => exact (by (with_reducible repeat (first | apply Kd.R_alloc | apply Kd.R_drewN | apply Kd.R_drew)); exact Kd.R_mono HO476.out (fun _ hk => ⟨hk.1.1, hk.2⟩))); (case aS => exact (below_size (qB))); (case aL => have := LMc11.out; omega); intro v482 w20 ho hb hg hat; rw [← Ny481.out] at ho; have n0_ := Aside0.mk (Kd.R_after (ok := (fun k_ => (P0_ k_ ∨ w.heap.size ≤ k_))) (qR HO_0.out) hg hat); have n1_ := Aside0.mk (hb); have n2_ := Aside0.mk (Kept.of_grown (S := (fun k_ => P0_ k_)) hg (qH) (fun k_ e_ => (HO476.out.1 k_ e_).1.1)); have n3_ := Aside0.mk ((show Kd.C (Kd.int .i64) w20 (some ad472) y477.length y477 from by rw [Ny477.out]; exact Kd.C_take (m := (x5_1 : Int).toNat) ((Kd.R_reads' (Kd.R_after (ok := (fun k_ => (P0_ k_ ∨ w.heap.size ≤ k_))) (qR HO_0.out) hg hat)).2.2) KL19.out)); have n4_ := Aside0.mk (ho); clear HO_0; clear HB; clear HK; clear HR480; clear HO476; have HO_0 := n0_; have HB := n1_; have HK := n2_; have HR480 := n3_; have HO483 := n4_; clear n0_ n1_ n2_ n3_ n4_; clear ho hb hg hat) | ((with_reducible refine gate_builtin (b := .append) (xs := #[.tmp 39, .tmp 41]) rfl ?_); at_builtin; refine Kd.R_append (Kd.int .i64) (w0 := w0) w0.heap.size rfl (.tmp 39) (.tmp 41) 23 3 (.int .i64 0) 8 rfl Try.underlying23 info3 rfl (by decide) (by omega) v482 y481 a1 [.int .i64 a1] (fun k_ => (P0_ k_ ∨ w.heap.size ≤ k_) ∧ some k_ ≠ (.slice (some ad472) l0.length co16 : Value).ownBlock) (fun _ => False) rfl rfl ?aP (fun _ hk => hk.elim) ?aF ?aO ?aB ?aS ?aL ?_; (case aP => exact rfl); (case aB => exact (qB)); (case aF => exact (fun k_ hk => ⟨(.inr (Nat.le_trans (by first | exact HK.out.1 | exact (show Kept w _ (fun k_ => P0_ k_) from qH).1) hk)), Kd.fresh' (Kd.R_lt (qR HO_0.out)) k_ hk⟩)); (case aO => exact (qR HO483.out)); (case aS => exact (below_size (qB))); (case aL => have := LMc12.out; omega); intro v485 w21 ho hb hg hat; rw [← Ny484.out] at ho; have n0_ := Aside0.mk (Kd.R_after (ok := (fun k_ => (P0_ k_ ∨ w.heap.size ≤ k_))) (qR HO_0.out) hg hat); have n1_ := Aside0.mk (hb); have n2_ := Aside0.mk (Kept.of_grown (S := (fun k_ => P0_ k_)) hg (qH) (fun k_ e_ => (HO483.out.1 k_ e_).1)); have n3_ := Aside0.mk ((show Kd.C (Kd.int .i64) w21 (some ad472) y477.length y477 from by rw [Ny477.out]; exact Kd.C_take (m := (x5_1 : Int).toNat) ((Kd.R_reads' (Kd.R_after (ok := (fun k_ => (P0_ k_ ∨ w.heap.size ≤ k_))) (qR HO_0.out) hg hat)).2.2) KL19.out)); have n4_ := Aside0.mk (ho); clear HO_0; clear HB; clear HK; clear HR480; clear HO483; have HO_0 := n0_; have HB := n1_; have HK := n2_; have HR480 := n3_; have HO486 := n4_; clear n0_ n1_ n2_ n3_ n4_; clear ho hb hg hat; have q22 : (x5_1 : Int) ≤ ((l0.length : Int) : Int) := qD; obtain ⟨i022, hi022, _, hsz22, _⟩ := info_parts info3; have hroom22 : l0.length ≤ co16 := (Kd.R_reads' HO_0.out).2.1; have hC22 : Kd.C (Kd.int .i64) _ (some ad472) l0.length l0 := (Kd.R_reads' HO_0.out).2.2; have q022 : (0 : Int) ≤ (x5_1 : Int) := qD; have hcut22 := cut_from (P := Try.prog) 23 3 .i64 Try.underlying23 hi022 1 hsz22 (some ad472) l0.length co16 x5_1 q022 q22; have hr22 := Kd.C_drop (m := (x5_1 : Int).toNat) (c := co16) hC22 (by omega) hroom22; obtain ⟨A22, hA22⟩ : ∃ A_, A_ = (if co16 = (x5_1 : Int).toNat then (some ad472) else ((some ad472) : Option Addr).map (·.add ((x5_1 : Int).toNat * 1))) := ⟨_, rfl⟩; obtain ⟨c22, hc22⟩ : ∃ c_, c_ = co16 - (x5_1 : Int).toNat := ⟨_, rfl⟩; have hy22 : y487.length = l0.length - (x5_1 : Int).toNat := (by rw [Ny487.out, List.length_drop] <;> omega); rw [show (l0).drop (x5_1 : Int).toNat = y487 from Ny487.out.symm] at hr22; replace hr22 : Kd.C (Kd.int .i64) _ A22 y487.length y487 := (by rw [hA22]; exact hr22); rw [← hy22, ← hA22, ← hc22] at hcut22; have HR490 := Aside0.mk hr22; have HC490 := Aside0.mk (show y487.length ≤ c22 from by rw [hy22, hc22]; exact Nat.sub_le_sub_right hroom22 _); clear hr22 hC22 hroom22 hi022 hsz22 hc22; have KY22 := Aside0.mk hy22; have KA22 := Aside0.mk hA22; clear hy22 hA22; have KL22 := Aside0.mk (show (x5_1 : Int).toNat ≤ l0.length from by omega); replace q22 := eq_true q22) | ((with_reducible refine gate_builtin (b := .append) (xs := #[.tmp 43, .tmp 46]) rfl ?_); at_builtin; refine Kd.R_append_rows (Kd.int .i64) (w0 := w0) w0.heap.size rfl (.tmp 43) (.tmp 46) 23 3 (.int .i64 0) 8 rfl Try.underlying23 info3 rfl (by decide) (by omega) v485 y484 y487 _ _ _ (fun k_ => (P0_ k_ ∨ w.heap.size ≤ k_) ∧ some k_ ≠ (.slice (some ad472) l0.length co16 : Value).ownBlock) (fun _ => False) rfl rfl ?aO ?aR (fun _ _ h => h) (fun _ h => h.elim) ?aF ?aB ?aS ?aL ?_; (case aR => repeat (first | exact (by repeat (first | (with_reducible exact HR490.out) | (with_reducible refine Kd.C_alloc ?_ _) | (with_reducible refine Kd.C_drewN ?_ _) | (with_reducible refine Kd.C_drew ?_) | exact HR490.out)) | (with_reducible refine Kd.C_alloc ?_ _) | (with_reducible refine Kd.C_drewN ?_ _) | (with_reducible refine Kd.C_drew ?_))); (case aB => exact (qB)); (case aF => exact (fun k_ hk => ⟨(.inr (Nat.le_trans (by first | exact HK.out.1 | exact (show Kept w _ (fun k_ => P0_ k_) from qH).1) hk)), Kd.fresh' (Kd.R_lt (qR HO_0.out)) k_ hk⟩)); (case aO => exact (qR HO486.out)); (case aS => exact (below_size (qB))); (case aL => have := LMc15.out; omega); intro v492 w23 ho hb hg hat; rw [← Ny491.out] at ho; have n0_ := Aside0.mk (Kd.R_after (ok := (fun k_ => (P0_ k_ ∨ w.heap.size ≤ k_))) (qR HO_0.out) hg hat); have n1_ := Aside0.mk (hb); have n2_ := Aside0.mk (Kept.of_grown (S := (fun k_ => P0_ k_)) hg (qH) (fun k_ e_ => (HO486.out.1 k_ e_).1)); have n3_ := Aside0.mk ((show Kd.C (Kd.int .i64) w23 (some ad472) y477.length y477 from by rw [Ny477.out]; exact Kd.C_take (m := (x5_1 : Int).toNat) ((Kd.R_reads' (Kd.R_after (ok := (fun k_ => (P0_ k_ ∨ w.heap.size ≤ k_))) (qR HO_0.out) hg hat)).2.2) KL19.out)); have n4_ := Aside0.mk ((show Kd.C (Kd.int .i64) w23 A22 y487.length y487 from by rw [Ny487.out, KA22.out]; exact Kd.C_drop (m := (x5_1 : Int).toNat) (c := co16) ((Kd.R_reads' (Kd.R_after (ok := (fun k_ => (P0_ k_ ∨ w.heap.size ≤ k_))) (qR HO_0.out) hg hat)).2.2) KL22.out ((Kd.R_reads' (Kd.R_after (ok := (fun k_ => (P0_ k_ ∨ w.heap.size ≤ k_))) (qR HO_0.out) hg hat)).2.1))); have n5_ := Aside0.mk (ho); clear HO_0; clear HB; clear HK; clear HR480; clear HR490; clear HO486; have HO_0 := n0_; have HB := n1_; have HK := n2_; have HR480 := n3_; have HR490 := n4_; have HO493 := n5_; clear n0_ n1_ n2_ n3_ n4_ n5_; clear ho hb hg hat))
           go_ret
           exact ⟨_, qE, by (with_reducible repeat (first | apply Kd.R_alloc | apply Kd.R_drewN | apply Kd.R_drew)); exact Kd.R_mono HO493.out (fun _ hk => hk.1), qB, qH⟩
          ·rw [if_neg c15] at H
           exact absurd H (by simp)
         ·rw [if_neg c12] at H
          exact absurd H (by simp)
        ·rw [if_neg c11] at H
         exact absurd H (by simp)
       ·rw [if_neg c10] at H
        exact absurd H (by simp)
    ·rw [if_neg c4] at H
     exact absurd H (by simp)
   ·rw [if_neg c3] at H
    have c3b0 : decide (x5_1 < (l0.length : Int)) = false := decide_eq_false c3
    clear c3
    obtain ⟨y494, hy494⟩ : ∃ y_ : List Int, y_ = (([] : List Int)) := ⟨_, rfl⟩
    replace H : (if 0 ≤ x5_1 then (if x5_1 ≤ (l0.length : Int) then ((some (l0.take (x5_1 : Int).toNat : List Int)).bind fun y497 => (if y494.length + y497.length < 17592186044416 then ((some (y494 ++ y497 : List Int)).bind fun y501 => (if y501.length < 17592186044416 then ((some (y501 ++ [a1] : List Int)).bind fun y504 => ((some (l0.drop (x5_1 : Int).toNat : List Int)).bind fun y507 => (if y504.length + y507.length < 17592186044416 then (some (y504 ++ y507)) else (none)))) else (none))) else (none))) else (none)) else (none)) = some r := qY hy494 H
    have Ny494 := Aside0.mk hy494
    clear hy494
    by_cases c24 : 0 ≤ x5_1
    ·rw [if_pos c24] at H
     have c24b0 := eq_true c24
     have c24b1 : decide (0 ≤ x5_1) = true := decide_eq_true c24
     clear c24
     by_cases c25 : x5_1 ≤ (l0.length : Int)
     ·rw [if_pos c25] at H
      have c25b0 := eq_true c25
      have c25b1 : decide (x5_1 ≤ (l0.length : Int)) = true := decide_eq_true c25
      clear c25
      obtain ⟨y497, hy497⟩ : ∃ y_ : List Int, y_ = (l0.take (x5_1 : Int).toNat) := ⟨_, rfl⟩
      replace H : (if y494.length + y497.length < 17592186044416 then ((some (y494 ++ y497 : List Int)).bind fun y501 => (if y501.length < 17592186044416 then ((some (y501 ++ [a1] : List Int)).bind fun y504 => ((some (l0.drop (x5_1 : Int).toNat : List Int)).bind fun y507 => (if y504.length + y507.length < 17592186044416 then (some (y504 ++ y507)) else (none)))) else (none))) else (none)) = some r := qY hy497 H
      have Ny497 := Aside0.mk hy497
      clear hy497
      by_cases c26 : y494.length + y497.length < 17592186044416
      ·rw [if_pos c26] at H
       have LMc26 := Aside0.mk c26
       clear c26
       obtain ⟨y501, hy501⟩ : ∃ y_ : List Int, y_ = (y494 ++ y497) := ⟨_, rfl⟩
       replace H : (if y501.length < 17592186044416 then ((some (y501 ++ [a1] : List Int)).bind fun y504 => ((some (l0.drop (x5_1 : Int).toNat : List Int)).bind fun y507 => (if y504.length + y507.length < 17592186044416 then (some (y504 ++ y507)) else (none)))) else (none)) = some r := qY hy501 H
       have Ny501 := Aside0.mk hy501
       clear hy501
       by_cases c27 : y501.length < 17592186044416
       ·rw [if_pos c27] at H
        have LMc27 := Aside0.mk c27
        clear c27
        obtain ⟨y504, hy504⟩ : ∃ y_ : List Int, y_ = (y501 ++ [a1]) := ⟨_, rfl⟩
        replace H : ((some (l0.drop (x5_1 : Int).toNat : List Int)).bind fun y507 => (if y504.length + y507.length < 17592186044416 then (some (y504 ++ y507)) else (none))) = some r := qY hy504 H
        have Ny504 := Aside0.mk hy504
        clear hy504
        have c28b0 := eq_true (qD : 0 ≤ x5_1)
        have c29b0 := eq_true (qD : x5_1 ≤ (l0.length : Int))
        obtain ⟨y507, hy507⟩ : ∃ y_ : List Int, y_ = (l0.drop (x5_1 : Int).toNat) := ⟨_, rfl⟩
        replace H : (if y504.length + y507.length < 17592186044416 then (some (y504 ++ y507)) else (none)) = some r := qY hy507 H
        have Ny507 := Aside0.mk hy507
        clear hy507
        by_cases c30 : y504.length + y507.length < 17592186044416
        ·rw [if_pos c30] at H
         have LMc30 := Aside0.mk c30
         clear c30
         obtain ⟨y511, hy511⟩ : ∃ y_ : List Int, y_ = (y504 ++ y507) := ⟨_, rfl⟩
         replace H : (some y511) = some r := qY hy511 H
         have Ny511 := Aside0.mk hy511
         clear hy511
         obtain rfl := Option.some.inj H
         obtain ⟨Ao31, co31, eo31⟩ := Kd.R_slice HO_0.out
         subst eo31
         go_wp2_with (first | ((with_reducible refine gate_dst (N := 34) rfl ?_); refine Kd.R_lit (Kd.int .i64) _ 3 ?hg (N := 34) ?hd (xs := ([] : List Int)) (inner := []) (ok := fun _ => True) (okp := fun _ => True) ?hr ?hp (fun _ hk => hk) trivial (Below.refl _ _) (Nat.le_refl _) (by simp) ?_; (case hd => rfl); (case hg => rfl); (case hr => first | (go_simp; done) | (go_simp; rfl)); (case hp => exact (Reps.none _ _)); intro v495 w32 ho33 hb hg_ hnew_; clear hg_ hnew_; (first | rw [← Ny494.out] at ho33 | (simp only [Int.reduceToNat] at ho33; rw [← Ny494.out] at ho33)); have n0_ := Aside0.mk (Kd.R_elder' (qR HO_0.out) (Kd.R_base ho33) hb); have n1_ := Aside0.mk (Kd.R_lower (Kd.R_new' (Kd.R_newM (M := fun k_ => (P0_ k_ ∨ w.heap.size ≤ k_)) ho33 (by first | exact HK.out.1 | exact (show Kept w _ (fun k_ => P0_ k_) from qH).1) (fun k_ h_ => .inr h_)) (Kd.R_lt (qR HO_0.out))) (below_size (qB))); have n2_ := Aside0.mk (Kept.below (S := (fun k_ => P0_ k_)) (qH) hb); have n3_ := Aside0.mk (below_step (qB) hb); clear HO_0; clear HK; clear HB; have HO_0 := n0_; have HO496 := n1_; have HK := n2_; have HB := n3_; clear n0_ n1_ n2_ n3_; clear hb ho33; have q34 : (x5_1 : Int) ≤ ((l0.length : Int) : Int) := qD; obtain ⟨i034, hi034, _, hsz34, _⟩ := info_parts info3; have hroom34 : l0.length ≤ co31 := (Kd.R_reads' HO_0.out).2.1; have hC34 : Kd.C (Kd.int .i64) _ Ao31 l0.length l0 := (Kd.R_reads' HO_0.out).2.2; have hcut34 := cut_to (P := Try.prog) 23 3 .i64 Try.underlying23 hi034 Ao31 l0.length co31 x5_1 qD q34 hroom34; have hr34 := Kd.C_take (m := (x5_1 : Int).toNat) hC34 (by omega); have hy34 : y497.length = (x5_1 : Int).toNat := (by rw [Ny497.out, List.length_take]; omega); rw [← Ny497.out] at hr34; rw [← hy34] at hcut34; have HR500 := Aside0.mk hr34; have HC500 := Aside0.mk (show y497.length ≤ co31 from by omega); clear hr34 hC34 hroom34 hi034 hsz34; have KY34 := Aside0.mk hy34; clear hy34; have KL34 := Aside0.mk (show (x5_1 : Int).toNat ≤ l0.length from by omega); replace q34 := eq_true q34) | ((with_reducible refine gate_builtin (b := .append) (xs := #[.tmp 34, .tmp 37]) rfl ?_); at_builtin; refine Kd.R_append_rows (Kd.int .i64) (w0 := w0) w0.heap.size rfl (.tmp 34) (.tmp 37) 23 3 (.int .i64 0) 8 rfl Try.underlying23 info3 rfl (by decide) (by omega) v495 y494 y497 _ _ _ (fun k_ => (P0_ k_ ∨ w.heap.size ≤ k_) ∧ some k_ ≠ (.slice Ao31 l0.length co31 : Value).ownBlock) (fun _ => False) rfl rfl ?aO ?aR (fun _ _ h => h) (fun _ h => h.elim) ?aF ?aB ?aS ?aL ?_; (case aR => repeat (first | exact (by repeat (first | (with_reducible exact HR500.out) | (with_reducible refine Kd.C_alloc ?_ _) | (with_reducible refine Kd.C_drewN ?_ _) | (with_reducible refine Kd.C_drew ?_) | exact HR500.out)) | (with_reducible refine Kd.C_alloc ?_ _) | (with_reducible refine Kd.C_drewN ?_ _) | (with_reducible refine Kd.C_drew ?_))); (case aB => exact (qB)); (case aF => exact (fun k_ hk => ⟨(.inr (Nat.le_trans (by first | exact HK.out.1 | exact (show Kept w _ (fun k_ => P0_ k_) from qH).1) hk)), Kd.fresh' (Kd.R_lt (qR HO_0.out)) k_ hk⟩)); (case aO => exact (by (with_reducible repeat (first | apply Kd.R_alloc | apply Kd.R_drewN | apply Kd.R_drew)); exact Kd.R_mono HO496.out (fun _ hk => ⟨hk.1.1, hk.2⟩))); (case aS => exact (below_size (qB))); (case aL => have := LMc26.out; omega); intro v502 w35 ho hb hg hat; rw [← Ny501.out] at ho; have n0_ := Aside0.mk (Kd.R_after (ok := (fun k_ => (P0_ k_ ∨ w.heap.size ≤ k_))) (qR HO_0.out) hg hat); have n1_ := Aside0.mk (hb); have n2_ := Aside0.mk (Kept.of_grown (S := (fun k_ => P0_ k_)) hg (qH) (fun k_ e_ => (HO496.out.1 k_ e_).1.1)); have n3_ := Aside0.mk ((show Kd.C (Kd.int .i64) w35 Ao31 y497.length y497 from by rw [Ny497.out]; exact Kd.C_take (m := (x5_1 : Int).toNat) ((Kd.R_reads' (Kd.R_after (ok := (fun k_ => (P0_ k_ ∨ w.heap.size ≤ k_))) (qR HO_0.out) hg hat)).2.2) KL34.out)); have n4_ := Aside0.mk (ho); clear HO_0; clear HB; clear HK; clear HR500; clear HO496; have HO_0 := n0_; have HB := n1_; have HK := n2_; have HR500 := n3_; have HO503 := n4_; clear n0_ n1_ n2_ n3_ n4_; clear ho hb hg hat) | ((with_reducible refine gate_builtin (b := .append) (xs := #[.tmp 39, .tmp 41]) rfl ?_); at_builtin; refine Kd.R_append (Kd.int .i64) (w0 := w0) w0.heap.size rfl (.tmp 39) (.tmp 41) 23 3 (.int .i64 0) 8 rfl Try.underlying23 info3 rfl (by decide) (by omega) v502 y501 a1 [.int .i64 a1] (fun k_ => (P0_ k_ ∨ w.heap.size ≤ k_) ∧ some k_ ≠ (.slice Ao31 l0.length co31 : Value).ownBlock) (fun _ => False) rfl rfl ?aP (fun _ hk => hk.elim) ?aF ?aO ?aB ?aS ?aL ?_; (case aP => exact rfl); (case aB => exact (qB)); (case aF => exact (fun k_ hk => ⟨(.inr (Nat.le_trans (by first | exact HK.out.1 | exact (show Kept w _ (fun k_ => P0_ k_) from qH).1) hk)), Kd.fresh' (Kd.R_lt (qR HO_0.out)) k_ hk⟩)); (case aO => exact (qR HO503.out)); (case aS => exact (below_size (qB))); (case aL => have := LMc27.out; omega); intro v505 w36 ho hb hg hat; rw [← Ny504.out] at ho; have n0_ := Aside0.mk (Kd.R_after (ok := (fun k_ => (P0_ k_ ∨ w.heap.size ≤ k_))) (qR HO_0.out) hg hat); have n1_ := Aside0.mk (hb); have n2_ := Aside0.mk (Kept.of_grown (S := (fun k_ => P0_ k_)) hg (qH) (fun k_ e_ => (HO503.out.1 k_ e_).1)); have n3_ := Aside0.mk ((show Kd.C (Kd.int .i64) w36 Ao31 y497.length y497 from by rw [Ny497.out]; exact Kd.C_take (m := (x5_1 : Int).toNat) ((Kd.R_reads' (Kd.R_after (ok := (fun k_ => (P0_ k_ ∨ w.heap.size ≤ k_))) (qR HO_0.out) hg hat)).2.2) KL34.out)); have n4_ := Aside0.mk (ho); clear HO_0; clear HB; clear HK; clear HR500; clear HO503; have HO_0 := n0_; have HB := n1_; have HK := n2_; have HR500 := n3_; have HO506 := n4_; clear n0_ n1_ n2_ n3_ n4_; clear ho hb hg hat; have q37 : (x5_1 : Int) ≤ ((l0.length : Int) : Int) := qD; obtain ⟨i037, hi037, _, hsz37, _⟩ := info_parts info3; have hroom37 : l0.length ≤ co31 := (Kd.R_reads' HO_0.out).2.1; have hC37 : Kd.C (Kd.int .i64) _ Ao31 l0.length l0 := (Kd.R_reads' HO_0.out).2.2; have q037 : (0 : Int) ≤ (x5_1 : Int) := qD; have hcut37 := cut_from (P := Try.prog) 23 3 .i64 Try.underlying23 hi037 1 hsz37 Ao31 l0.length co31 x5_1 q037 q37; have hr37 := Kd.C_drop (m := (x5_1 : Int).toNat) (c := co31) hC37 (by omega) hroom37; obtain ⟨A37, hA37⟩ : ∃ A_, A_ = (if co31 = (x5_1 : Int).toNat then Ao31 else (Ao31 : Option Addr).map (·.add ((x5_1 : Int).toNat * 1))) := ⟨_, rfl⟩; obtain ⟨c37, hc37⟩ : ∃ c_, c_ = co31 - (x5_1 : Int).toNat := ⟨_, rfl⟩; have hy37 : y507.length = l0.length - (x5_1 : Int).toNat := (by rw [Ny507.out, List.length_drop] <;> omega); rw [show (l0).drop (x5_1 : Int).toNat = y507 from Ny507.out.symm] at hr37; replace hr37 : Kd.C (Kd.int .i64) _ A37 y507.length y507 := (by rw [hA37]; exact hr37); rw [← hy37, ← hA37, ← hc37] at hcut37; have HR510 := Aside0.mk hr37; have HC510 := Aside0.mk (show y507.length ≤ c37 from by rw [hy37, hc37]; exact Nat.sub_le_sub_right hroom37 _); clear hr37 hC37 hroom37 hi037 hsz37 hc37; have KY37 := Aside0.mk hy37; have KA37 := Aside0.mk hA37; clear hy37 hA37; have KL37 := Aside0.mk (show (x5_1 : Int).toNat ≤ l0.length from by omega); replace q37 := eq_true q37) | ((with_reducible refine gate_builtin (b := .append) (xs := #[.tmp 43, .tmp 46]) rfl ?_); at_builtin; refine Kd.R_append_rows (Kd.int .i64) (w0 := w0) w0.heap.size rfl (.tmp 43) (.tmp 46) 23 3 (.int .i64 0) 8 rfl Try.underlying23 info3 rfl (by decide) (by omega) v505 y504 y507 _ _ _ (fun k_ => (P0_ k_ ∨ w.heap.size ≤ k_) ∧ some k_ ≠ (.slice Ao31 l0.length co31 : Value).ownBlock) (fun _ => False) rfl rfl ?aO ?aR (fun _ _ h => h) (fun _ h => h.elim) ?aF ?aB ?aS ?aL ?_; (case aR => repeat (first | exact (by repeat (first | (with_reducible exact HR510.out) | (with_reducible refine Kd.C_alloc ?_ _) | (with_reducible refine Kd.C_drewN ?_ _) | (with_reducible refine Kd.C_drew ?_) | exact HR510.out)) | (with_reducible refine Kd.C_alloc ?_ _) | (with_reducible refine Kd.C_drewN ?_ _) | (with_reducible refine Kd.C_drew ?_))); (case aB => exact (qB)); (case aF => exact (fun k_ hk => ⟨(.inr (Nat.le_trans (by first | exact HK.out.1 | exact (show Kept w _ (fun k_ => P0_ k_) from qH).1) hk)), Kd.fresh' (Kd.R_lt (qR HO_0.out)) k_ hk⟩)); (case aO => exact (qR HO506.out)); (case aS => exact (below_size (qB))); (case aL => have := LMc30.out; omega); intro v512 w38 ho hb hg hat; rw [← Ny511.out] at ho; have n0_ := Aside0.mk (Kd.R_after (ok := (fun k_ => (P0_ k_ ∨ w.heap.size ≤ k_))) (qR HO_0.out) hg hat); have n1_ := Aside0.mk (hb); have n2_ := Aside0.mk (Kept.of_grown (S := (fun k_ => P0_ k_)) hg (qH) (fun k_ e_ => (HO506.out.1 k_ e_).1)); have n3_ := Aside0.mk ((show Kd.C (Kd.int .i64) w38 Ao31 y497.length y497 from by rw [Ny497.out]; exact Kd.C_take (m := (x5_1 : Int).toNat) ((Kd.R_reads' (Kd.R_after (ok := (fun k_ => (P0_ k_ ∨ w.heap.size ≤ k_))) (qR HO_0.out) hg hat)).2.2) KL34.out)); have n4_ := Aside0.mk ((show Kd.C (Kd.int .i64) w38 A37 y507.length y507 from by rw [Ny507.out, KA37.out]; exact Kd.C_drop (m := (x5_1 : Int).toNat) (c := co31) ((Kd.R_reads' (Kd.R_after (ok := (fun k_ => (P0_ k_ ∨ w.heap.size ≤ k_))) (qR HO_0.out) hg hat)).2.2) KL37.out ((Kd.R_reads' (Kd.R_after (ok := (fun k_ => (P0_ k_ ∨ w.heap.size ≤ k_))) (qR HO_0.out) hg hat)).2.1))); have n5_ := Aside0.mk (ho); clear HO_0; clear HB; clear HK; clear HR500; clear HR510; clear HO506; have HO_0 := n0_; have HB := n1_; have HK := n2_; have HR500 := n3_; have HR510 := n4_; have HO513 := n5_; clear n0_ n1_ n2_ n3_ n4_ n5_; clear ho hb hg hat))
         go_ret
         exact ⟨_, qE, by (with_reducible repeat (first | apply Kd.R_alloc | apply Kd.R_drewN | apply Kd.R_drew)); exact Kd.R_mono HO513.out (fun _ hk => hk.1), qB, qH⟩
        ·rw [if_neg c30] at H
         exact absurd H (by simp)
       ·rw [if_neg c27] at H
        exact absurd H (by simp)
      ·rw [if_neg c26] at H
       exact absurd H (by simp)
     ·rw [if_neg c25] at H
      exact absurd H (by simp)
    ·rw [if_neg c24] at H
     exact absurd H (by simp)

end Go.Proofs.Ytimkjhdopncimaa.X
