/- Each Go function as a Lean function, with the proof that the call comes to just its answer; or a law's row out of its pure statement. Conditions: the arguments are of their kinds. Written by this session's program wip/xp/xp.sh. -/
import Derived.Test.YtdmngodinbelfaaX0
import Derived.Test.YtdmngodinbelfaaX7
namespace Go.Proofs.Ytdmngodinbelfaa.X
open Go.RowKit Go.Proofs.YtdmngodinbelfaaW.PrintWords Go.Proofs.YtdmngodinbelfaaW.PrintLast Go.Proofs.YtdmngodinbelfaaW.PrintMore
attribute [local go_sem] max2_int min2_int max_two min_two max_three min_three max_four min_four   -- for this text's walks alone
set_option linter.unusedVariables false
set_option linter.unusedSimpArgs false

/-! ### spec_l6Force: function 44 -/
mutual
def spec_l6Force.l0 : Nat → List Int → Bool → Int → List (List Int) → Option (Bool × List Int)
  | 0, _, _, _, _ => none
  | k + 1, x1, x5, x248000, x248001 => if x5 = true then (spec_l6Force.l1 k x1 false x248001 (x248001.length : Int) 0 x248000 x248001) else (some (false, x1))
def spec_l6Force.l1 : Nat → List Int → Bool → List (List Int) → Int → Int → Int → List (List Int) → Option (Bool × List Int)
  | 0, _, _, _, _, _, _, _ => none
  | k + 1, x1, x5, x16, x17, x18, x248000, x248001 => if x18 < x17 then (if 0 ≤ x18 then (if x18 < (x16.length : Int) then (spec_l6Force.l2 k x1 x5 false 0 0 x16 x17 x18 (rd_L1 x16 x18) ((rd_L1 x16 x18).length : Int) 0 x248000 x248001) else (none)) else (none)) else (spec_l6Force.l0 k x1 x5 x248000 x248001)
def spec_l6Force.l2 : Nat → List Int → Bool → Bool → Int → Int → List (List Int) → Int → Int → List Int → Int → Int → Int → List (List Int) → Option (Bool × List Int)
  | 0, _, _, _, _, _, _, _, _, _, _, _, _, _ => none
  | k + 1, x1, x5, x8, x9, x10, x16, x17, x18, x22, x23, x24, x248000, x248001 => if x24 < x23 then (if 0 ≤ x24 then (if x24 < (x22.length : Int) then ((spec_l6Sign.f x1 (rd x22 x24)).bind fun t250 => (if x8 = true then (if t250 = 0 then (if (rd x22 x24) = x9 then (spec_l6Force.l2 k x1 x5 true x9 x10 x16 x17 x18 x22 x23 (wrap64 (x24 + 1)) x248000 x248001) else (spec_l6Force.l2 k x1 x5 true (rd x22 x24) (wrap64 (x10 + 1)) x16 x17 x18 x22 x23 (wrap64 (x24 + 1)) x248000 x248001)) else (spec_l6Force.l2 k x1 x5 true x9 x10 x16 x17 x18 x22 x23 (wrap64 (x24 + 1)) x248000 x248001)) else (if t250 = 0 then (if (rd x22 x24) = x9 then (spec_l6Force.l2 k x1 x5 (t250 == 1) x9 x10 x16 x17 x18 x22 x23 (wrap64 (x24 + 1)) x248000 x248001) else (spec_l6Force.l2 k x1 x5 (t250 == 1) (rd x22 x24) (wrap64 (x10 + 1)) x16 x17 x18 x22 x23 (wrap64 (x24 + 1)) x248000 x248001)) else (spec_l6Force.l2 k x1 x5 (t250 == 1) x9 x10 x16 x17 x18 x22 x23 (wrap64 (x24 + 1)) x248000 x248001)))) else (none)) else (none)) else (if x8 = true then (spec_l6Force.l1 k x1 x5 x16 x17 (wrap64 (x18 + 1)) x248000 x248001) else (if x10 = 0 then (some (true, x1)) else (if x10 = 1 then (if x9 < 0 then (if 0 ≤ (wrap64 (-x9)) then (if (wrap64 (-x9)) < (x1.length : Int) then (spec_l6Force.l1 k (x1.set ((wrap64 (-x9)) : Int).toNat (-1)) true x16 x17 (wrap64 (x18 + 1)) x248000 x248001) else (none)) else (none)) else (if 0 ≤ x9 then (if x9 < (x1.length : Int) then (spec_l6Force.l1 k (x1.set (x9 : Int).toNat 1) true x16 x17 (wrap64 (x18 + 1)) x248000 x248001) else (none)) else (none))) else (spec_l6Force.l1 k x1 x5 x16 x17 (wrap64 (x18 + 1)) x248000 x248001))))
end
def spec_l6Force.f (k : Nat) (a0_0 : Int) (l0_1 : List (List Int)) (l1 : List Int) : Option (Bool × List Int) := spec_l6Force.l0 k l1 true a0_0 l0_1
theorem spec_l6Force.mono_l : ∀ k, (∀ y0 y1 y2 y3, LeO (spec_l6Force.l0 k y0 y1 y2 y3) (spec_l6Force.l0 (k + 1) y0 y1 y2 y3)) ∧ (∀ y0 y1 y2 y3 y4 y5 y6, LeO (spec_l6Force.l1 k y0 y1 y2 y3 y4 y5 y6) (spec_l6Force.l1 (k + 1) y0 y1 y2 y3 y4 y5 y6)) ∧ (∀ y0 y1 y2 y3 y4 y5 y6 y7 y8 y9 y10 y11 y12, LeO (spec_l6Force.l2 k y0 y1 y2 y3 y4 y5 y6 y7 y8 y9 y10 y11 y12) (spec_l6Force.l2 (k + 1) y0 y1 y2 y3 y4 y5 y6 y7 y8 y9 y10 y11 y12))
  | 0 => ⟨fun _ _ _ _ r h => by simp [spec_l6Force.l0] at h, fun _ _ _ _ _ _ _ r h => by simp [spec_l6Force.l1] at h, fun _ _ _ _ _ _ _ _ _ _ _ _ _ r h => by simp [spec_l6Force.l2] at h⟩
  | k + 1 => by
    obtain ⟨ih0, ih1, ih2⟩ := spec_l6Force.mono_l k
    refine ⟨?_, ?_, ?_⟩
    · intro y0 y1 y2 y3
      unfold spec_l6Force.l0
      repeat' first
      | (with_reducible exact ih0 _ _ _ _)
      | (with_reducible exact ih1 _ _ _ _ _ _ _)
      | (with_reducible exact ih2 _ _ _ _ _ _ _ _ _ _ _ _ _)
      | (with_reducible exact LeO.refl _)
      | (with_reducible exact LeO.none _)
      | (with_reducible refine LeO.ite ?_ ?_)
      | (with_reducible refine LeO.bind ?_ (fun _ => ?_))
      | exact ih0 _ _ _ _
      | exact ih1 _ _ _ _ _ _ _
      | exact ih2 _ _ _ _ _ _ _ _ _ _ _ _ _
      | exact LeO.none _
      | refine LeO.ite ?_ ?_
      | refine LeO.bind ?_ (fun _ => ?_)
    · intro y0 y1 y2 y3 y4 y5 y6
      unfold spec_l6Force.l1
      repeat' first
      | (with_reducible exact ih0 _ _ _ _)
      | (with_reducible exact ih1 _ _ _ _ _ _ _)
      | (with_reducible exact ih2 _ _ _ _ _ _ _ _ _ _ _ _ _)
      | (with_reducible exact LeO.refl _)
      | (with_reducible exact LeO.none _)
      | (with_reducible refine LeO.ite ?_ ?_)
      | (with_reducible refine LeO.bind ?_ (fun _ => ?_))
      | exact ih0 _ _ _ _
      | exact ih1 _ _ _ _ _ _ _
      | exact ih2 _ _ _ _ _ _ _ _ _ _ _ _ _
      | exact LeO.none _
      | refine LeO.ite ?_ ?_
      | refine LeO.bind ?_ (fun _ => ?_)
    · intro y0 y1 y2 y3 y4 y5 y6 y7 y8 y9 y10 y11 y12
      unfold spec_l6Force.l2
      repeat' first
      | (with_reducible exact ih0 _ _ _ _)
      | (with_reducible exact ih1 _ _ _ _ _ _ _)
      | (with_reducible exact ih2 _ _ _ _ _ _ _ _ _ _ _ _ _)
      | (with_reducible exact LeO.refl _)
      | (with_reducible exact LeO.none _)
      | (with_reducible refine LeO.ite ?_ ?_)
      | (with_reducible refine LeO.bind ?_ (fun _ => ?_))
      | exact ih0 _ _ _ _
      | exact ih1 _ _ _ _ _ _ _
      | exact ih2 _ _ _ _ _ _ _ _ _ _ _ _ _
      | exact LeO.none _
      | refine LeO.ite ?_ ?_
      | refine LeO.bind ?_ (fun _ => ?_)
theorem spec_l6Force.mono : ∀ a0 a1 a2 k, LeO (spec_l6Force.f k a0 a1 a2) (spec_l6Force.f (k + 1) a0 a1 a2) := by
  intro a0 a1 a2 k
  obtain ⟨ih0, ih1, ih2⟩ := spec_l6Force.mono_l k
  unfold spec_l6Force.f
  repeat' first
      | (with_reducible exact ih0 _ _ _ _)
      | (with_reducible exact ih1 _ _ _ _ _ _ _)
      | (with_reducible exact ih2 _ _ _ _ _ _ _ _ _ _ _ _ _)
      | (with_reducible exact LeO.refl _)
      | (with_reducible exact LeO.none _)
      | (with_reducible refine LeO.ite ?_ ?_)
      | (with_reducible refine LeO.bind ?_ (fun _ => ?_))
      | exact ih0 _ _ _ _
      | exact ih1 _ _ _ _ _ _ _
      | exact ih2 _ _ _ _ _ _ _ _ _ _ _ _ _
      | exact LeO.none _
      | refine LeO.ite ?_ ?_
      | refine LeO.bind ?_ (fun _ => ?_)
set_option maxHeartbeats 8000000 in
set_option maxRecDepth 100000 in
theorem spec_l6Force.calls (k : Nat) (a0_0 : Int) (A0_1 : Option Addr) (c0_1 : Nat) (l0_1 : List (List Int)) (P1_ : Nat → Prop) (u9000_ : Value) (l1 : List Int) (r1 : Bool) (r2 : List Int) (w0 w : World) (hB : Below w0.heap.size w0 w) (hr0_1 : ∀ W_, Kept w W_ (fun k_ => P1_ k_) → Kd.C (Kd.slice 3 (Kd.int .i64)) W_ A0_1 l0_1.length l0_1) (hc0_1 : l0_1.length ≤ c0_1) (ho1 : Kd.R (Kd.int .i64) 3 w w0.heap.size P1_ u9000_ l1) (h : spec_l6Force.f k a0_0 l0_1 l1 = some (r1, r2)) :
    Calls Try.prog 44 #[.agg #[.int .i64 a0_0, .slice A0_1 l0_1.length c0_1], u9000_] w fun e w' => e = .returned (.bool r1) ∧ Kd.R (Kd.int .i64) 3 w' w0.heap.size (fun k_ => (P1_ k_ ∨ w.heap.size ≤ k_)) u9000_ r2 ∧ Below w0.heap.size w0 w' ∧ Kept w w' (fun k_ => P1_ k_) := by
  have hu27 := Try.underlying27
  have HR0_1 := Aside0.mk hr0_1
  have HC0_1 := Aside0.mk hc0_1
  clear hr0_1 hc0_1
  have HO1 := Aside0.mk (show Kd.R (Kd.int .i64) 3 w w0.heap.size (fun k_ => (P1_ k_ ∨ w.heap.size ≤ k_)) u9000_ l1 from Kd.R_mono ho1 (fun k_ hk => (.inl hk)))
  have HK := Aside0.mk (Kept.refl w (fun k_ => P1_ k_))
  have HW0 := Aside0.mk hB.size
  have HB := Aside0.mk hB
  clear hB
  have H : (spec_l6Force.l0 k l1 true a0_0 l0_1) = some (r1, r2) := h
  clear h
  have H' := Aside0.mk H
  clear H
  go_enter Try.func44, Try.ntmps44
  go_wp2_with (first | ((with_reducible refine gate_dst (N := 2) rfl ?_); refine box_event ?hg (N := 2) ?hd (cs := #[.int .i64 a0_0, .slice A0_1 l0_1.length c0_1]) (t := 27) ?hr ?_; (case hd => rfl); (case hg => rfl); (case hr => first | (go_simp; done) | (go_simp; rfl)); intro gb247 hg w3 hbox hb; have n0_ := Aside0.mk (Kd.R_below (qR HO1.out) hb); have n1_ := Aside0.mk (Kept.below (S := (fun k_ => P1_ k_)) (qH) hb); have n2_ := Aside0.mk (below_step (qB) hb); have n3_ := Aside0.mk (hbox); have n4_ := Aside0.mk ((by rw [hg]; exact (by first | exact HK.out.1 | exact (show Kept w _ (fun k_ => P1_ k_) from qH).1) : w.heap.size ≤ gb247)); have n5_ := Aside0.mk ((by rw [hg]; exact (below_size (qB)) : w0.heap.size ≤ gb247)); clear HO1; clear HK; clear HB; have HO1 := n0_; have HK := n1_; have HB := n2_; have BK247 := n3_; have GW247 := n4_; have GE247 := n5_; clear n0_ n1_ n2_ n3_ n4_ n5_; clear hb hbox hg))
  go_loopg [5] k (fun kq v5 w' => ∃ (x1_1 : List Int) (x5_1 : Bool), v5 = .bool x5_1 ∧ Aside0 (spec_l6Force.l0 kq x1_1 x5_1 a0_0 l0_1 = some (r1, r2)) ∧ Aside0 (kq ≤ k) ∧ Aside0 (Kd.R (Kd.int .i64) 3 w' w0.heap.size (fun k_ => (P1_ k_ ∨ w.heap.size ≤ k_)) u9000_ x1_1) ∧ Aside0 (w'.heap[gb247]? = some (.cells #[.int .i64 a0_0, (.slice A0_1 l0_1.length c0_1)] 27 (0, 0))) ∧ Aside0 (Kept w w' (fun k_ => P1_ k_)) ∧ Aside0 (Below w0.heap.size w0 w'))
  case atStart => exact ⟨(l1), (true), qS, H', ⟨Nat.le_refl _⟩, ⟨qR HO1.out⟩, ⟨by (with_reducible repeat (first | refine blk_drewN ?_ _ | refine blk_drew ?_ | refine blk_alloc ?_ _)); exact BK247.out⟩, ⟨by repeat (first | (with_reducible first | exact HK.out | apply Kept.alloc | apply Kept.drewN | apply Kept.drew | refine Kept.setCell ?_ (.inr GW247.out) _) | exact HK.out)⟩, ⟨qB⟩⟩
  case round =>
    clear H'
    try clear p2
    obtain ⟨x1_1, x5_1, rfl, HA, HK1, HO_1, BK247, HK, HB⟩ := hrel
    cases gk with
    | zero => exact absurd HA.out (by simp [spec_l6Force.l0])
    | succ k1 =>
      have H := HA.out
      clear HA
      simp only [spec_l6Force.l0] at H
      by_cases c4 : x5_1 = true
      · subst c4
        have H1 : (spec_l6Force.l1 k1 x1_1 false l0_1 (l0_1.length : Int) 0 a0_0 l0_1) = some (r1, r2) := by rw [if_pos rfl] at H; exact H
        clear H
        have H := H1
        clear H1
        have H' := Aside0.mk H
        clear H
        have hcz5_0 : wr.cell? ⟨gb247, 0, none⟩ = some (.int .i64 a0_0) := (blk_cell BK247.out 0).trans rfl
        have hcz5_1 : wr.cell? ⟨gb247, 1, none⟩ = some (.slice A0_1 l0_1.length c0_1) := (blk_cell BK247.out 1).trans rfl
        have hfz5_0 := blk_frozen BK247.out 0
        have hfz5_1 := blk_frozen BK247.out 1
        go_wp2
        go_loopg [5, 18] k1 (fun kq v5 v18 w' => ∃ (x1_2 : List Int) (x5_2 : Bool) (x18_2 : Int), v5 = .bool x5_2 ∧ v18 = .int .i64 x18_2 ∧ Aside0 (spec_l6Force.l1 kq x1_2 x5_2 l0_1 (l0_1.length : Int) x18_2 a0_0 l0_1 = some (r1, r2)) ∧ Aside0 (kq ≤ k1) ∧ Aside0 (Kd.R (Kd.int .i64) 3 w' w0.heap.size (fun k_ => (P1_ k_ ∨ w.heap.size ≤ k_)) u9000_ x1_2) ∧ Aside0 (w'.heap[gb247]? = some (.cells #[.int .i64 a0_0, (.slice A0_1 l0_1.length c0_1)] 27 (0, 0))) ∧ Aside0 (Kept w w' (fun k_ => P1_ k_)) ∧ Aside0 (Below w0.heap.size w0 w'))
        case atStart => exact ⟨(x1_1), (false), (0), qS, qS, H', ⟨Nat.le_refl _⟩, ⟨qR HO_1.out⟩, ⟨by (with_reducible repeat (first | refine blk_drewN ?_ _ | refine blk_drew ?_ | refine blk_alloc ?_ _)); exact BK247.out⟩, ⟨by repeat (first | (with_reducible first | exact HK.out | apply Kept.alloc | apply Kept.drewN | apply Kept.drew | refine Kept.setCell ?_ (.inr GW247.out) _) | exact HK.out)⟩, ⟨qB⟩⟩
        case round =>
          clear H'
          try clear p2
          try clear c4
          try clear hcz5_0
          try clear hcz5_1
          try clear hfz5_0
          try clear hfz5_1
          try clear p2
          obtain ⟨x1_2, x5_2, x18_2, rfl, rfl, HA, HK2, HO_1, BK247, HK, HB⟩ := hrel
          cases gk with
          | zero => exact absurd HA.out (by simp [spec_l6Force.l1])
          | succ k2 =>
            have H := HA.out
            clear HA
            simp only [spec_l6Force.l1] at H
            by_cases c6 : x18_2 < (l0_1.length : Int)
            · rw [if_pos c6] at H
              have c6b0 : decide (x18_2 < (l0_1.length : Int)) = true := decide_eq_true c6
              clear c6
              by_cases c7 : 0 ≤ x18_2
              · rw [if_pos c7] at H
                have c7b0 : decide (0 ≤ x18_2) = true := decide_eq_true c7
                clear c7
                by_cases c8 : x18_2 < (l0_1.length : Int)
                · rw [if_pos c8] at H
                  have c8b0 : decide (x18_2 < (l0_1.length : Int)) = true := decide_eq_true c8
                  clear c8
                  have H' := Aside0.mk H
                  clear H
                  have p248 : 0 ≤ (x18_2 : Int) := qD
                  have q248 : x18_2 < (l0_1.length : Int) := qD
                  obtain ⟨ad248, A248_0, c248_0, e248, hx248_0, hl248_0, hi248_0⟩ := at_L1 (Kd.C_kept_now HR0_1.out HK.out) x18_2 p248 q248
                  cases e248
                  have HR248_0 := Aside0.mk hi248_0
                  have HC248_0 := Aside0.mk hl248_0
                  clear hi248_0 hl248_0
                  replace p248 := eq_true p248
                  replace q248 := eq_true q248
                  go_wp2
                  go_loopg [8, 9, 10, 24] k2 (fun kq v8 v9 v10 v24 w' => ∃ (x8_3 : Bool) (x9_3 : Int) (x10_3 : Int) (x24_3 : Int), v8 = .bool x8_3 ∧ v9 = .int .i64 x9_3 ∧ v10 = .int .i64 x10_3 ∧ v24 = .int .i64 x24_3 ∧ Aside0 (spec_l6Force.l2 kq x1_2 x5_2 x8_3 x9_3 x10_3 l0_1 (l0_1.length : Int) x18_2 (rd_L1 l0_1 x18_2) ((rd_L1 l0_1 x18_2).length : Int) x24_3 a0_0 l0_1 = some (r1, r2)) ∧ Aside0 (kq ≤ k2) ∧ Aside0 (Kd.R (Kd.int .i64) 3 w' w0.heap.size (fun k_ => (P1_ k_ ∨ w.heap.size ≤ k_)) u9000_ x1_2) ∧ Aside0 (w'.heap[gb247]? = some (.cells #[.int .i64 a0_0, (.slice (some ad248) l0_1.length c0_1)] 27 (0, 0))) ∧ Aside0 (Kd.C (Kd.int .i64) w' A248_0 (rd_L1 l0_1 x18_2).length (rd_L1 l0_1 x18_2)) ∧ Aside0 (Kept w w' (fun k_ => P1_ k_)) ∧ Aside0 (Below w0.heap.size w0 w'))
                  case atStart => exact ⟨(false), (0), (0), (0), qS, qS, qS, qS, H', ⟨Nat.le_refl _⟩, ⟨qR HO_1.out⟩, ⟨by (with_reducible repeat (first | refine blk_drewN ?_ _ | refine blk_drew ?_ | refine blk_alloc ?_ _)); exact BK247.out⟩, ⟨by repeat (first | (with_reducible exact HR248_0.out) | (with_reducible refine Kd.C_alloc ?_ _) | (with_reducible refine Kd.C_drewN ?_ _) | (with_reducible refine Kd.C_drew ?_) | exact HR248_0.out)⟩, ⟨by repeat (first | (with_reducible first | exact HK.out | apply Kept.alloc | apply Kept.drewN | apply Kept.drew | refine Kept.setCell ?_ (.inr GW247.out) _) | exact HK.out)⟩, ⟨qB⟩⟩
                  case round =>
                    clear H'
                    try clear c2
                    try clear p2
                    try clear q2
                    try clear hx2
                    try clear c4
                    try clear c6
                    try clear c6b0
                    try clear c7
                    try clear c7b0
                    try clear c8
                    try clear c8b0
                    try clear hcz5_0
                    try clear hcz5_1
                    try clear hfz5_0
                    try clear hfz5_1
                    try clear hx248_0
                    try clear p2
                    try clear p248
                    try clear q248
                    obtain ⟨x8_3, x9_3, x10_3, x24_3, rfl, rfl, rfl, rfl, HA, HK3, HO_1, BK247, HR248_0, HK, HB⟩ := hrel
                    cases gk with
                    | zero => exact absurd HA.out (by simp [spec_l6Force.l2])
                    | succ k3 =>
                      have H := HA.out
                      clear HA
                      simp only [spec_l6Force.l2] at H
                      by_cases c9 : x24_3 < ((rd_L1 l0_1 x18_2).length : Int)
                      · rw [if_pos c9] at H
                        have c9b0 : decide (x24_3 < ((rd_L1 l0_1 x18_2).length : Int)) = true := decide_eq_true c9
                        clear c9
                        by_cases c10 : 0 ≤ x24_3
                        · rw [if_pos c10] at H
                          have c10b0 : decide (0 ≤ x24_3) = true := decide_eq_true c10
                          clear c10
                          by_cases c11 : x24_3 < ((rd_L1 l0_1 x18_2).length : Int)
                          · rw [if_pos c11] at H
                            have c11b0 : decide (x24_3 < ((rd_L1 l0_1 x18_2).length : Int)) = true := decide_eq_true c11
                            clear c11
                            replace H := Option.bind_eq_some_iff.mp H
                            obtain ⟨t250, A120, H⟩ := H
                            replace H : (if x8_3 = true then (if t250 = 0 then (if (rd (rd_L1 l0_1 x18_2) x24_3) = x9_3 then (spec_l6Force.l2 k3 x1_2 x5_2 true x9_3 x10_3 l0_1 (l0_1.length : Int) x18_2 (rd_L1 l0_1 x18_2) ((rd_L1 l0_1 x18_2).length : Int) (wrap64 (x24_3 + 1)) a0_0 l0_1) else (spec_l6Force.l2 k3 x1_2 x5_2 true (rd (rd_L1 l0_1 x18_2) x24_3) (wrap64 (x10_3 + 1)) l0_1 (l0_1.length : Int) x18_2 (rd_L1 l0_1 x18_2) ((rd_L1 l0_1 x18_2).length : Int) (wrap64 (x24_3 + 1)) a0_0 l0_1)) else (spec_l6Force.l2 k3 x1_2 x5_2 true x9_3 x10_3 l0_1 (l0_1.length : Int) x18_2 (rd_L1 l0_1 x18_2) ((rd_L1 l0_1 x18_2).length : Int) (wrap64 (x24_3 + 1)) a0_0 l0_1)) else (if t250 = 0 then (if (rd (rd_L1 l0_1 x18_2) x24_3) = x9_3 then (spec_l6Force.l2 k3 x1_2 x5_2 (t250 == 1) x9_3 x10_3 l0_1 (l0_1.length : Int) x18_2 (rd_L1 l0_1 x18_2) ((rd_L1 l0_1 x18_2).length : Int) (wrap64 (x24_3 + 1)) a0_0 l0_1) else (spec_l6Force.l2 k3 x1_2 x5_2 (t250 == 1) (rd (rd_L1 l0_1 x18_2) x24_3) (wrap64 (x10_3 + 1)) l0_1 (l0_1.length : Int) x18_2 (rd_L1 l0_1 x18_2) ((rd_L1 l0_1 x18_2).length : Int) (wrap64 (x24_3 + 1)) a0_0 l0_1)) else (spec_l6Force.l2 k3 x1_2 x5_2 (t250 == 1) x9_3 x10_3 l0_1 (l0_1.length : Int) x18_2 (rd_L1 l0_1 x18_2) ((rd_L1 l0_1 x18_2).length : Int) (wrap64 (x24_3 + 1)) a0_0 l0_1))) = some (r1, r2) := H
                            have A12 := Aside0.mk A120
                            clear A120
                            by_cases c13 : x8_3 = true
                            · subst c13
                              have H1 : (if t250 = 0 then (if (rd (rd_L1 l0_1 x18_2) x24_3) = x9_3 then (spec_l6Force.l2 k3 x1_2 x5_2 true x9_3 x10_3 l0_1 (l0_1.length : Int) x18_2 (rd_L1 l0_1 x18_2) ((rd_L1 l0_1 x18_2).length : Int) (wrap64 (x24_3 + 1)) a0_0 l0_1) else (spec_l6Force.l2 k3 x1_2 x5_2 true (rd (rd_L1 l0_1 x18_2) x24_3) (wrap64 (x10_3 + 1)) l0_1 (l0_1.length : Int) x18_2 (rd_L1 l0_1 x18_2) ((rd_L1 l0_1 x18_2).length : Int) (wrap64 (x24_3 + 1)) a0_0 l0_1)) else (spec_l6Force.l2 k3 x1_2 x5_2 true x9_3 x10_3 l0_1 (l0_1.length : Int) x18_2 (rd_L1 l0_1 x18_2) ((rd_L1 l0_1 x18_2).length : Int) (wrap64 (x24_3 + 1)) a0_0 l0_1)) = some (r1, r2) := by rw [if_pos rfl] at H; exact H
                              clear H
                              have H := H1
                              clear H1
                              by_cases c14 : t250 = 0
                              · rw [if_pos c14] at H
                                have c14b0 : (t250 == 0) = true := beq_iff_eq.mpr c14
                                have c14b1 : (t250 != 0) = false := bne_eq_false_iff_eq.mpr c14
                                clear c14
                                by_cases c15 : (rd (rd_L1 l0_1 x18_2) x24_3) = x9_3
                                · rw [if_pos c15] at H
                                  have c15b0 : ((rd (rd_L1 l0_1 x18_2) x24_3) == x9_3) = true := beq_iff_eq.mpr c15
                                  have c15b1 : ((rd (rd_L1 l0_1 x18_2) x24_3) != x9_3) = false := bne_eq_false_iff_eq.mpr c15
                                  clear c15
                                  have H' := Aside0.mk H
                                  clear H
                                  have p249 : 0 ≤ (x24_3 : Int) := qD
                                  have q249 : x24_3 < ((rd_L1 l0_1 x18_2).length : Int) := qD
                                  obtain ⟨ad249, e249, hx249_0⟩ := Kd.at_int HR248_0.out x24_3 p249 q249
                                  cases e249
                                  replace p249 := eq_true p249
                                  replace q249 := eq_true q249
                                  obtain ⟨Ao16, co16, eo16⟩ := Kd.R_slice HO_1.out
                                  subst eo16
                                  go_wp2_with (first | ((with_reducible refine gate_callee (f := 42) rfl ?_); refine goesL_ (some 30) rfl rfl Try.func42 (by kernel_rfl) rfl #[.slice Ao16 x1_2.length co16, .int .i64 (rd (rd_L1 l0_1 x18_2) x24_3)] rfl qG ?_; (with_reducible refine (spec_l6Sign.calls _ _ x1_2 (rd (rd_L1 l0_1 x18_2) x24_3) t250 _ ?side1 ?side2 A12.out).mono ?_); (case side1 => repeat (first | exact (Kd.R_reads' HO_1.out).2.2 | (with_reducible refine Kd.C_alloc ?_ _) | (with_reducible refine Kd.C_drewN ?_ _) | (with_reducible refine Kd.C_drew ?_))); (case side2 => exact (Kd.R_reads' HO_1.out).2.1); rintro e w' ⟨rfl, ⟨nd, rfl⟩⟩; refine ⟨_, rfl, ?_⟩))
                                  go_roundg k3
                                  case measure => have := HK1.out; have := HK2.out; have := HK3.out; omega
                                  case rel => exact ⟨(true), (x9_3), (x10_3), (wrap64 (x24_3 + 1)), qS, qS, qS, qS, H', ⟨by have := HK1.out; have := HK2.out; have := HK3.out; omega⟩, ⟨qR HO_1.out⟩, ⟨by (with_reducible repeat (first | refine blk_drewN ?_ _ | refine blk_drew ?_ | refine blk_alloc ?_ _)); exact BK247.out⟩, ⟨by repeat (first | (with_reducible exact HR248_0.out) | (with_reducible refine Kd.C_alloc ?_ _) | (with_reducible refine Kd.C_drewN ?_ _) | (with_reducible refine Kd.C_drew ?_) | exact HR248_0.out)⟩, ⟨by repeat (first | (with_reducible first | exact HK.out | apply Kept.alloc | apply Kept.drewN | apply Kept.drew | refine Kept.setCell ?_ (.inr GW247.out) _) | exact HK.out)⟩, ⟨qB⟩⟩
                                · rw [if_neg c15] at H
                                  have c15b0 : ((rd (rd_L1 l0_1 x18_2) x24_3) == x9_3) = false := beq_eq_false_iff_ne.mpr c15
                                  have c15b1 : ((rd (rd_L1 l0_1 x18_2) x24_3) != x9_3) = true := bne_iff_ne.mpr c15
                                  have H' := Aside0.mk H
                                  clear H
                                  have p249 : 0 ≤ (x24_3 : Int) := qD
                                  have q249 : x24_3 < ((rd_L1 l0_1 x18_2).length : Int) := qD
                                  obtain ⟨ad249, e249, hx249_0⟩ := Kd.at_int HR248_0.out x24_3 p249 q249
                                  cases e249
                                  replace p249 := eq_true p249
                                  replace q249 := eq_true q249
                                  obtain ⟨Ao17, co17, eo17⟩ := Kd.R_slice HO_1.out
                                  subst eo17
                                  go_wp2_with (first | ((with_reducible refine gate_callee (f := 42) rfl ?_); refine goesL_ (some 30) rfl rfl Try.func42 (by kernel_rfl) rfl #[.slice Ao17 x1_2.length co17, .int .i64 (rd (rd_L1 l0_1 x18_2) x24_3)] rfl qG ?_; (with_reducible refine (spec_l6Sign.calls _ _ x1_2 (rd (rd_L1 l0_1 x18_2) x24_3) t250 _ ?side1 ?side2 A12.out).mono ?_); (case side1 => repeat (first | exact (Kd.R_reads' HO_1.out).2.2 | (with_reducible refine Kd.C_alloc ?_ _) | (with_reducible refine Kd.C_drewN ?_ _) | (with_reducible refine Kd.C_drew ?_))); (case side2 => exact (Kd.R_reads' HO_1.out).2.1); rintro e w' ⟨rfl, ⟨nd, rfl⟩⟩; refine ⟨_, rfl, ?_⟩))
                                  go_roundg k3
                                  case measure => have := HK1.out; have := HK2.out; have := HK3.out; omega
                                  case rel => exact ⟨(true), (rd (rd_L1 l0_1 x18_2) x24_3), (wrap64 (x10_3 + 1)), (wrap64 (x24_3 + 1)), qS, qS, qS, qS, H', ⟨by have := HK1.out; have := HK2.out; have := HK3.out; omega⟩, ⟨qR HO_1.out⟩, ⟨by (with_reducible repeat (first | refine blk_drewN ?_ _ | refine blk_drew ?_ | refine blk_alloc ?_ _)); exact BK247.out⟩, ⟨by repeat (first | (with_reducible exact HR248_0.out) | (with_reducible refine Kd.C_alloc ?_ _) | (with_reducible refine Kd.C_drewN ?_ _) | (with_reducible refine Kd.C_drew ?_) | exact HR248_0.out)⟩, ⟨by repeat (first | (with_reducible first | exact HK.out | apply Kept.alloc | apply Kept.drewN | apply Kept.drew | refine Kept.setCell ?_ (.inr GW247.out) _) | exact HK.out)⟩, ⟨qB⟩⟩
                              · rw [if_neg c14] at H
                                have c14b0 : (t250 == 0) = false := beq_eq_false_iff_ne.mpr c14
                                have c14b1 : (t250 != 0) = true := bne_iff_ne.mpr c14
                                have H' := Aside0.mk H
                                clear H
                                have p249 : 0 ≤ (x24_3 : Int) := qD
                                have q249 : x24_3 < ((rd_L1 l0_1 x18_2).length : Int) := qD
                                obtain ⟨ad249, e249, hx249_0⟩ := Kd.at_int HR248_0.out x24_3 p249 q249
                                cases e249
                                replace p249 := eq_true p249
                                replace q249 := eq_true q249
                                obtain ⟨Ao18, co18, eo18⟩ := Kd.R_slice HO_1.out
                                subst eo18
                                go_wp2_with (first | ((with_reducible refine gate_callee (f := 42) rfl ?_); refine goesL_ (some 30) rfl rfl Try.func42 (by kernel_rfl) rfl #[.slice Ao18 x1_2.length co18, .int .i64 (rd (rd_L1 l0_1 x18_2) x24_3)] rfl qG ?_; (with_reducible refine (spec_l6Sign.calls _ _ x1_2 (rd (rd_L1 l0_1 x18_2) x24_3) t250 _ ?side1 ?side2 A12.out).mono ?_); (case side1 => repeat (first | exact (Kd.R_reads' HO_1.out).2.2 | (with_reducible refine Kd.C_alloc ?_ _) | (with_reducible refine Kd.C_drewN ?_ _) | (with_reducible refine Kd.C_drew ?_))); (case side2 => exact (Kd.R_reads' HO_1.out).2.1); rintro e w' ⟨rfl, ⟨nd, rfl⟩⟩; refine ⟨_, rfl, ?_⟩))
                                go_roundg k3
                                case measure => have := HK1.out; have := HK2.out; have := HK3.out; omega
                                case rel => exact ⟨(true), (x9_3), (x10_3), (wrap64 (x24_3 + 1)), qS, qS, qS, qS, H', ⟨by have := HK1.out; have := HK2.out; have := HK3.out; omega⟩, ⟨qR HO_1.out⟩, ⟨by (with_reducible repeat (first | refine blk_drewN ?_ _ | refine blk_drew ?_ | refine blk_alloc ?_ _)); exact BK247.out⟩, ⟨by repeat (first | (with_reducible exact HR248_0.out) | (with_reducible refine Kd.C_alloc ?_ _) | (with_reducible refine Kd.C_drewN ?_ _) | (with_reducible refine Kd.C_drew ?_) | exact HR248_0.out)⟩, ⟨by repeat (first | (with_reducible first | exact HK.out | apply Kept.alloc | apply Kept.drewN | apply Kept.drew | refine Kept.setCell ?_ (.inr GW247.out) _) | exact HK.out)⟩, ⟨qB⟩⟩
                            · replace c13 := Bool.eq_false_iff.mpr c13
                              subst c13
                              have H1 : (if t250 = 0 then (if (rd (rd_L1 l0_1 x18_2) x24_3) = x9_3 then (spec_l6Force.l2 k3 x1_2 x5_2 (t250 == 1) x9_3 x10_3 l0_1 (l0_1.length : Int) x18_2 (rd_L1 l0_1 x18_2) ((rd_L1 l0_1 x18_2).length : Int) (wrap64 (x24_3 + 1)) a0_0 l0_1) else (spec_l6Force.l2 k3 x1_2 x5_2 (t250 == 1) (rd (rd_L1 l0_1 x18_2) x24_3) (wrap64 (x10_3 + 1)) l0_1 (l0_1.length : Int) x18_2 (rd_L1 l0_1 x18_2) ((rd_L1 l0_1 x18_2).length : Int) (wrap64 (x24_3 + 1)) a0_0 l0_1)) else (spec_l6Force.l2 k3 x1_2 x5_2 (t250 == 1) x9_3 x10_3 l0_1 (l0_1.length : Int) x18_2 (rd_L1 l0_1 x18_2) ((rd_L1 l0_1 x18_2).length : Int) (wrap64 (x24_3 + 1)) a0_0 l0_1)) = some (r1, r2) := by rw [if_neg (show ¬ (false = true) by decide)] at H; exact H
                              clear H
                              have H := H1
                              clear H1
                              by_cases c19 : t250 = 0
                              · rw [if_pos c19] at H
                                have c19b0 : (t250 == 0) = true := beq_iff_eq.mpr c19
                                have c19b1 : (t250 != 0) = false := bne_eq_false_iff_eq.mpr c19
                                clear c19
                                by_cases c20 : (rd (rd_L1 l0_1 x18_2) x24_3) = x9_3
                                · rw [if_pos c20] at H
                                  have c20b0 : ((rd (rd_L1 l0_1 x18_2) x24_3) == x9_3) = true := beq_iff_eq.mpr c20
                                  have c20b1 : ((rd (rd_L1 l0_1 x18_2) x24_3) != x9_3) = false := bne_eq_false_iff_eq.mpr c20
                                  clear c20
                                  have H' := Aside0.mk H
                                  clear H
                                  have p249 : 0 ≤ (x24_3 : Int) := qD
                                  have q249 : x24_3 < ((rd_L1 l0_1 x18_2).length : Int) := qD
                                  obtain ⟨ad249, e249, hx249_0⟩ := Kd.at_int HR248_0.out x24_3 p249 q249
                                  cases e249
                                  replace p249 := eq_true p249
                                  replace q249 := eq_true q249
                                  obtain ⟨Ao21, co21, eo21⟩ := Kd.R_slice HO_1.out
                                  subst eo21
                                  go_wp2_with (first | ((with_reducible refine gate_callee (f := 42) rfl ?_); refine goesL_ (some 30) rfl rfl Try.func42 (by kernel_rfl) rfl #[.slice Ao21 x1_2.length co21, .int .i64 (rd (rd_L1 l0_1 x18_2) x24_3)] rfl qG ?_; (with_reducible refine (spec_l6Sign.calls _ _ x1_2 (rd (rd_L1 l0_1 x18_2) x24_3) t250 _ ?side1 ?side2 A12.out).mono ?_); (case side1 => repeat (first | exact (Kd.R_reads' HO_1.out).2.2 | (with_reducible refine Kd.C_alloc ?_ _) | (with_reducible refine Kd.C_drewN ?_ _) | (with_reducible refine Kd.C_drew ?_))); (case side2 => exact (Kd.R_reads' HO_1.out).2.1); rintro e w' ⟨rfl, ⟨nd, rfl⟩⟩; refine ⟨_, rfl, ?_⟩))
                                  go_roundg k3
                                  case measure => have := HK1.out; have := HK2.out; have := HK3.out; omega
                                  case rel => exact ⟨((t250 == 1)), (x9_3), (x10_3), (wrap64 (x24_3 + 1)), qS, qS, qS, qS, H', ⟨by have := HK1.out; have := HK2.out; have := HK3.out; omega⟩, ⟨qR HO_1.out⟩, ⟨by (with_reducible repeat (first | refine blk_drewN ?_ _ | refine blk_drew ?_ | refine blk_alloc ?_ _)); exact BK247.out⟩, ⟨by repeat (first | (with_reducible exact HR248_0.out) | (with_reducible refine Kd.C_alloc ?_ _) | (with_reducible refine Kd.C_drewN ?_ _) | (with_reducible refine Kd.C_drew ?_) | exact HR248_0.out)⟩, ⟨by repeat (first | (with_reducible first | exact HK.out | apply Kept.alloc | apply Kept.drewN | apply Kept.drew | refine Kept.setCell ?_ (.inr GW247.out) _) | exact HK.out)⟩, ⟨qB⟩⟩
                                · rw [if_neg c20] at H
                                  have c20b0 : ((rd (rd_L1 l0_1 x18_2) x24_3) == x9_3) = false := beq_eq_false_iff_ne.mpr c20
                                  have c20b1 : ((rd (rd_L1 l0_1 x18_2) x24_3) != x9_3) = true := bne_iff_ne.mpr c20
                                  have H' := Aside0.mk H
                                  clear H
                                  have p249 : 0 ≤ (x24_3 : Int) := qD
                                  have q249 : x24_3 < ((rd_L1 l0_1 x18_2).length : Int) := qD
                                  obtain ⟨ad249, e249, hx249_0⟩ := Kd.at_int HR248_0.out x24_3 p249 q249
                                  cases e249
                                  replace p249 := eq_true p249
                                  replace q249 := eq_true q249
                                  obtain ⟨Ao22, co22, eo22⟩ := Kd.R_slice HO_1.out
                                  subst eo22
                                  go_wp2_with (first | ((with_reducible refine gate_callee (f := 42) rfl ?_); refine goesL_ (some 30) rfl rfl Try.func42 (by kernel_rfl) rfl #[.slice Ao22 x1_2.length co22, .int .i64 (rd (rd_L1 l0_1 x18_2) x24_3)] rfl qG ?_; (with_reducible refine (spec_l6Sign.calls _ _ x1_2 (rd (rd_L1 l0_1 x18_2) x24_3) t250 _ ?side1 ?side2 A12.out).mono ?_); (case side1 => repeat (first | exact (Kd.R_reads' HO_1.out).2.2 | (with_reducible refine Kd.C_alloc ?_ _) | (with_reducible refine Kd.C_drewN ?_ _) | (with_reducible refine Kd.C_drew ?_))); (case side2 => exact (Kd.R_reads' HO_1.out).2.1); rintro e w' ⟨rfl, ⟨nd, rfl⟩⟩; refine ⟨_, rfl, ?_⟩))
                                  go_roundg k3
                                  case measure => have := HK1.out; have := HK2.out; have := HK3.out; omega
                                  case rel => exact ⟨((t250 == 1)), (rd (rd_L1 l0_1 x18_2) x24_3), (wrap64 (x10_3 + 1)), (wrap64 (x24_3 + 1)), qS, qS, qS, qS, H', ⟨by have := HK1.out; have := HK2.out; have := HK3.out; omega⟩, ⟨qR HO_1.out⟩, ⟨by (with_reducible repeat (first | refine blk_drewN ?_ _ | refine blk_drew ?_ | refine blk_alloc ?_ _)); exact BK247.out⟩, ⟨by repeat (first | (with_reducible exact HR248_0.out) | (with_reducible refine Kd.C_alloc ?_ _) | (with_reducible refine Kd.C_drewN ?_ _) | (with_reducible refine Kd.C_drew ?_) | exact HR248_0.out)⟩, ⟨by repeat (first | (with_reducible first | exact HK.out | apply Kept.alloc | apply Kept.drewN | apply Kept.drew | refine Kept.setCell ?_ (.inr GW247.out) _) | exact HK.out)⟩, ⟨qB⟩⟩
                              · rw [if_neg c19] at H
                                have c19b0 : (t250 == 0) = false := beq_eq_false_iff_ne.mpr c19
                                have c19b1 : (t250 != 0) = true := bne_iff_ne.mpr c19
                                have H' := Aside0.mk H
                                clear H
                                have p249 : 0 ≤ (x24_3 : Int) := qD
                                have q249 : x24_3 < ((rd_L1 l0_1 x18_2).length : Int) := qD
                                obtain ⟨ad249, e249, hx249_0⟩ := Kd.at_int HR248_0.out x24_3 p249 q249
                                cases e249
                                replace p249 := eq_true p249
                                replace q249 := eq_true q249
                                obtain ⟨Ao23, co23, eo23⟩ := Kd.R_slice HO_1.out
                                subst eo23
                                go_wp2_with (first | ((with_reducible refine gate_callee (f := 42) rfl ?_); refine goesL_ (some 30) rfl rfl Try.func42 (by kernel_rfl) rfl #[.slice Ao23 x1_2.length co23, .int .i64 (rd (rd_L1 l0_1 x18_2) x24_3)] rfl qG ?_; (with_reducible refine (spec_l6Sign.calls _ _ x1_2 (rd (rd_L1 l0_1 x18_2) x24_3) t250 _ ?side1 ?side2 A12.out).mono ?_); (case side1 => repeat (first | exact (Kd.R_reads' HO_1.out).2.2 | (with_reducible refine Kd.C_alloc ?_ _) | (with_reducible refine Kd.C_drewN ?_ _) | (with_reducible refine Kd.C_drew ?_))); (case side2 => exact (Kd.R_reads' HO_1.out).2.1); rintro e w' ⟨rfl, ⟨nd, rfl⟩⟩; refine ⟨_, rfl, ?_⟩))
                                go_roundg k3
                                case measure => have := HK1.out; have := HK2.out; have := HK3.out; omega
                                case rel => exact ⟨((t250 == 1)), (x9_3), (x10_3), (wrap64 (x24_3 + 1)), qS, qS, qS, qS, H', ⟨by have := HK1.out; have := HK2.out; have := HK3.out; omega⟩, ⟨qR HO_1.out⟩, ⟨by (with_reducible repeat (first | refine blk_drewN ?_ _ | refine blk_drew ?_ | refine blk_alloc ?_ _)); exact BK247.out⟩, ⟨by repeat (first | (with_reducible exact HR248_0.out) | (with_reducible refine Kd.C_alloc ?_ _) | (with_reducible refine Kd.C_drewN ?_ _) | (with_reducible refine Kd.C_drew ?_) | exact HR248_0.out)⟩, ⟨by repeat (first | (with_reducible first | exact HK.out | apply Kept.alloc | apply Kept.drewN | apply Kept.drew | refine Kept.setCell ?_ (.inr GW247.out) _) | exact HK.out)⟩, ⟨qB⟩⟩
                          · rw [if_neg c11] at H
                            exact absurd H (by simp)
                        · rw [if_neg c10] at H
                          exact absurd H (by simp)
                      · rw [if_neg c9] at H
                        have c9b0 : decide (x24_3 < ((rd_L1 l0_1 x18_2).length : Int)) = false := decide_eq_false c9
                        clear c9
                        by_cases c24 : x8_3 = true
                        · subst c24
                          have H1 : (spec_l6Force.l1 k3 x1_2 x5_2 l0_1 (l0_1.length : Int) (wrap64 (x18_2 + 1)) a0_0 l0_1) = some (r1, r2) := by rw [if_pos rfl] at H; exact H
                          clear H
                          have H := H1
                          clear H1
                          have H' := Aside0.mk H
                          clear H
                          go_wp2
                          go_roundg k3
                          case measure => have := HK1.out; have := HK2.out; have := HK3.out; omega
                          case rel => exact ⟨(x1_2), (x5_2), (wrap64 (x18_2 + 1)), qS, qS, H', ⟨by have := HK1.out; have := HK2.out; have := HK3.out; omega⟩, ⟨qR HO_1.out⟩, ⟨by (with_reducible repeat (first | refine blk_drewN ?_ _ | refine blk_drew ?_ | refine blk_alloc ?_ _)); exact BK247.out⟩, ⟨by repeat (first | (with_reducible first | exact HK.out | apply Kept.alloc | apply Kept.drewN | apply Kept.drew | refine Kept.setCell ?_ (.inr GW247.out) _) | exact HK.out)⟩, ⟨qB⟩⟩
                        · replace c24 := Bool.eq_false_iff.mpr c24
                          subst c24
                          have H1 : (if x10_3 = 0 then (some (true, x1_2)) else (if x10_3 = 1 then (if x9_3 < 0 then (if 0 ≤ (wrap64 (-x9_3)) then (if (wrap64 (-x9_3)) < (x1_2.length : Int) then (spec_l6Force.l1 k3 (x1_2.set ((wrap64 (-x9_3)) : Int).toNat (-1)) true l0_1 (l0_1.length : Int) (wrap64 (x18_2 + 1)) a0_0 l0_1) else (none)) else (none)) else (if 0 ≤ x9_3 then (if x9_3 < (x1_2.length : Int) then (spec_l6Force.l1 k3 (x1_2.set (x9_3 : Int).toNat 1) true l0_1 (l0_1.length : Int) (wrap64 (x18_2 + 1)) a0_0 l0_1) else (none)) else (none))) else (spec_l6Force.l1 k3 x1_2 x5_2 l0_1 (l0_1.length : Int) (wrap64 (x18_2 + 1)) a0_0 l0_1))) = some (r1, r2) := by rw [if_neg (show ¬ (false = true) by decide)] at H; exact H
                          clear H
                          have H := H1
                          clear H1
                          by_cases c25 : x10_3 = 0
                          · rw [if_pos c25] at H
                            have c25b0 : (x10_3 == 0) = true := beq_iff_eq.mpr c25
                            have c25b1 : (x10_3 != 0) = false := bne_eq_false_iff_eq.mpr c25
                            clear c25
                            simp only [Option.some.injEq, Prod.mk.injEq] at H
                            obtain ⟨rfl, rfl⟩ := H
                            go_wp2
                            go_ret
                            exact ⟨qE, qR HO_1.out, qB, by repeat (first | (with_reducible first | exact HK.out | apply Kept.alloc | apply Kept.drewN | apply Kept.drew | refine Kept.setCell ?_ (.inr GW247.out) _) | exact HK.out)⟩
                          · rw [if_neg c25] at H
                            have c25b0 : (x10_3 == 0) = false := beq_eq_false_iff_ne.mpr c25
                            have c25b1 : (x10_3 != 0) = true := bne_iff_ne.mpr c25
                            by_cases c26 : x10_3 = 1
                            · rw [if_pos c26] at H
                              have c26b0 : (x10_3 == 1) = true := beq_iff_eq.mpr c26
                              have c26b1 : (x10_3 != 1) = false := bne_eq_false_iff_eq.mpr c26
                              clear c26
                              by_cases c27 : x9_3 < 0
                              · rw [if_pos c27] at H
                                have c27b0 : decide (x9_3 < 0) = true := decide_eq_true c27
                                clear c27
                                obtain ⟨ji28, hji28⟩ : ∃ j_ : Int, (wrap64 (-x9_3)) = j_ := ⟨_, rfl⟩
                                replace H : (if 0 ≤ (ji28) then (if (ji28) < (x1_2.length : Int) then (spec_l6Force.l1 k3 (x1_2.set ((ji28) : Int).toNat (-1)) true l0_1 (l0_1.length : Int) (wrap64 (x18_2 + 1)) a0_0 l0_1) else (none)) else (none)) = some (r1, r2) := by first | (rw [hji28] at H; exact H) | (simp only [hji28] at H ⊢; exact H)
                                have hji28w : (IntKind.i64.wrap (-x9_3)) = ji28 := (i64_w _).trans hji28
                                by_cases c29 : 0 ≤ (ji28)
                                · rw [if_pos c29] at H
                                  have c29b0 : decide (0 ≤ (ji28)) = true := decide_eq_true c29
                                  clear c29
                                  by_cases c30 : (ji28) < (x1_2.length : Int)
                                  · rw [if_pos c30] at H
                                    have c30b0 : decide ((ji28) < (x1_2.length : Int)) = true := decide_eq_true c30
                                    clear c30
                                    obtain ⟨y251, hy251⟩ : ∃ y_ : List Int, y_ = (x1_2.set ((ji28) : Int).toNat (-1)) := ⟨_, rfl⟩
                                    replace H : (spec_l6Force.l1 k3 y251 true l0_1 (l0_1.length : Int) (wrap64 (x18_2 + 1)) a0_0 l0_1) = some (r1, r2) := qY hy251 H
                                    have Ny251 := Aside0.mk hy251
                                    clear hy251
                                    have H' := Aside0.mk H
                                    clear H
                                    have p31 : 0 ≤ ((ji28) : Int) := qD
                                    have q31 : ((ji28) : Int) < ((x1_2.length : Int) : Int) := qD
                                    obtain ⟨go31, co31, eo31, gb31, gl31, cl31, HG31⟩ := Kd.R_form HO_1.out (by omega)
                                    (first | cases eo31 | (injection eo31 with ea_ en_ ec_; (first | subst ea_ | (injection ea_ with ea_; subst ea_)); subst ec_; clear en_))
                                    have GB31 := Aside0.mk gb31
                                    have GG31 := Aside0.mk HG31
                                    clear gb31 gl31 HG31
                                    have HMgo31 := Aside0.mk (show (P1_ go31 ∨ w.heap.size ≤ go31) from (HO_1.out.1 _ rfl))
                                    obtain ⟨hx31_0, hf31_0⟩ := Kd.R_celln 0 HO_1.out ((ji28) : Int) p31 q31
                                    replace p31 := eq_true p31
                                    replace q31 := eq_true q31
                                    have HP32 := Kd.R_putg HO_1.out ((ji28) : Int) (-1)
                                    go_wp2_with (first | ((with_reducible refine gate_store (t := 3) (p := 60) rfl ?_); refine store_event (t := 3) (p := 60) (v := ?vo_w33) (w1 := (wr.setCell ⟨go31, ((ji28) : Int).toNat, none⟩ (.int .i64 (-1)))) ?hg ?ho ?hn ?hr ?_; (case ho => rfl); (case hg => rfl); (case hn => rfl); (case hr => first | (go_simp; done) | (go_simp; rfl)); intro w33 hw; have hg : wr.grownBy w33 (some go31) := (by rw [hw]; exact HP32.2); have hp_ : Kd.R (Kd.int .i64) 3 w33 w0.heap.size (fun k_ => (P1_ k_ ∨ w.heap.size ≤ k_)) (.slice (some ⟨go31, 0, none⟩) x1_2.length co31) y251 := (by rw [hw, Ny251.out]; exact HP32.1); clear HP32; have n0_ := Aside0.mk (hp_); have n1_ := Aside0.mk (blk_grown (g := gb247) (o := .cells #[.int .i64 a0_0, .slice (some ad248) l0_1.length c0_1] 27 (0, 0)) (qK BK247.out) hg (Kd.R_ne HO_1.out BK247.out (by decide))); have n2_ := Aside0.mk ((by rw [hw]; exact below_set (HB.out) GB31.out : Below w0.heap.size w0 w33)); have n3_ := Aside0.mk (Kept.of_grown (S := (fun k_ => P1_ k_)) hg (by repeat (first | (with_reducible first | exact HK.out | apply Kept.alloc | apply Kept.drewN | apply Kept.drew | refine Kept.setCell ?_ (.inr GW247.out) _) | exact HK.out)) (fun k_ e_ => (HO_1.out.1 k_ e_))); clear HO_1; clear BK247; clear HB; clear HK; have HO_1 := n0_; have BK247 := n1_; have HB := n2_; have HK := n3_; clear n0_ n1_ n2_ n3_; clear hg hw hp_))
                                    go_roundg k3
                                    case measure => have := HK1.out; have := HK2.out; have := HK3.out; omega
                                    case rel => exact ⟨(y251), (true), (wrap64 (x18_2 + 1)), qS, qS, H', ⟨by have := HK1.out; have := HK2.out; have := HK3.out; omega⟩, ⟨qR HO_1.out⟩, ⟨by (with_reducible repeat (first | refine blk_drewN ?_ _ | refine blk_drew ?_ | refine blk_alloc ?_ _)); exact BK247.out⟩, ⟨by repeat (first | (with_reducible first | exact HK.out | apply Kept.alloc | apply Kept.drewN | apply Kept.drew | refine Kept.setCell ?_ (.inr GW247.out) _) | exact HK.out)⟩, ⟨qB⟩⟩
                                  · rw [if_neg c30] at H
                                    exact absurd H (by simp)
                                · rw [if_neg c29] at H
                                  exact absurd H (by simp)
                              · rw [if_neg c27] at H
                                have c27b0 : decide (x9_3 < 0) = false := decide_eq_false c27
                                clear c27
                                by_cases c34 : 0 ≤ x9_3
                                · rw [if_pos c34] at H
                                  have c34b0 : decide (0 ≤ x9_3) = true := decide_eq_true c34
                                  clear c34
                                  by_cases c35 : x9_3 < (x1_2.length : Int)
                                  · rw [if_pos c35] at H
                                    have c35b0 : decide (x9_3 < (x1_2.length : Int)) = true := decide_eq_true c35
                                    clear c35
                                    obtain ⟨y252, hy252⟩ : ∃ y_ : List Int, y_ = (x1_2.set (x9_3 : Int).toNat 1) := ⟨_, rfl⟩
                                    replace H : (spec_l6Force.l1 k3 y252 true l0_1 (l0_1.length : Int) (wrap64 (x18_2 + 1)) a0_0 l0_1) = some (r1, r2) := qY hy252 H
                                    have Ny252 := Aside0.mk hy252
                                    clear hy252
                                    have H' := Aside0.mk H
                                    clear H
                                    have p36 : 0 ≤ (x9_3 : Int) := qD
                                    have q36 : (x9_3 : Int) < ((x1_2.length : Int) : Int) := qD
                                    obtain ⟨go36, co36, eo36, gb36, gl36, cl36, HG36⟩ := Kd.R_form HO_1.out (by omega)
                                    (first | cases eo36 | (injection eo36 with ea_ en_ ec_; (first | subst ea_ | (injection ea_ with ea_; subst ea_)); subst ec_; clear en_))
                                    have GB36 := Aside0.mk gb36
                                    have GG36 := Aside0.mk HG36
                                    clear gb36 gl36 HG36
                                    have HMgo36 := Aside0.mk (show (P1_ go36 ∨ w.heap.size ≤ go36) from (HO_1.out.1 _ rfl))
                                    obtain ⟨hx36_0, hf36_0⟩ := Kd.R_celln 0 HO_1.out (x9_3 : Int) p36 q36
                                    replace p36 := eq_true p36
                                    replace q36 := eq_true q36
                                    have HP37 := Kd.R_putg HO_1.out (x9_3 : Int) 1
                                    go_wp2_with (first | ((with_reducible refine gate_store (t := 3) (p := 63) rfl ?_); refine store_event (t := 3) (p := 63) (v := ?vo_w38) (w1 := (wr.setCell ⟨go36, (x9_3 : Int).toNat, none⟩ (.int .i64 1))) ?hg ?ho ?hn ?hr ?_; (case ho => rfl); (case hg => rfl); (case hn => rfl); (case hr => first | (go_simp; done) | (go_simp; rfl)); intro w38 hw; have hg : wr.grownBy w38 (some go36) := (by rw [hw]; exact HP37.2); have hp_ : Kd.R (Kd.int .i64) 3 w38 w0.heap.size (fun k_ => (P1_ k_ ∨ w.heap.size ≤ k_)) (.slice (some ⟨go36, 0, none⟩) x1_2.length co36) y252 := (by rw [hw, Ny252.out]; exact HP37.1); clear HP37; have n0_ := Aside0.mk (hp_); have n1_ := Aside0.mk (blk_grown (g := gb247) (o := .cells #[.int .i64 a0_0, .slice (some ad248) l0_1.length c0_1] 27 (0, 0)) (qK BK247.out) hg (Kd.R_ne HO_1.out BK247.out (by decide))); have n2_ := Aside0.mk ((by rw [hw]; exact below_set (HB.out) GB36.out : Below w0.heap.size w0 w38)); have n3_ := Aside0.mk (Kept.of_grown (S := (fun k_ => P1_ k_)) hg (by repeat (first | (with_reducible first | exact HK.out | apply Kept.alloc | apply Kept.drewN | apply Kept.drew | refine Kept.setCell ?_ (.inr GW247.out) _) | exact HK.out)) (fun k_ e_ => (HO_1.out.1 k_ e_))); clear HO_1; clear BK247; clear HB; clear HK; have HO_1 := n0_; have BK247 := n1_; have HB := n2_; have HK := n3_; clear n0_ n1_ n2_ n3_; clear hg hw hp_))
                                    go_roundg k3
                                    case measure => have := HK1.out; have := HK2.out; have := HK3.out; omega
                                    case rel => exact ⟨(y252), (true), (wrap64 (x18_2 + 1)), qS, qS, H', ⟨by have := HK1.out; have := HK2.out; have := HK3.out; omega⟩, ⟨qR HO_1.out⟩, ⟨by (with_reducible repeat (first | refine blk_drewN ?_ _ | refine blk_drew ?_ | refine blk_alloc ?_ _)); exact BK247.out⟩, ⟨by repeat (first | (with_reducible first | exact HK.out | apply Kept.alloc | apply Kept.drewN | apply Kept.drew | refine Kept.setCell ?_ (.inr GW247.out) _) | exact HK.out)⟩, ⟨qB⟩⟩
                                  · rw [if_neg c35] at H
                                    exact absurd H (by simp)
                                · rw [if_neg c34] at H
                                  exact absurd H (by simp)
                            · rw [if_neg c26] at H
                              have c26b0 : (x10_3 == 1) = false := beq_eq_false_iff_ne.mpr c26
                              have c26b1 : (x10_3 != 1) = true := bne_iff_ne.mpr c26
                              have H' := Aside0.mk H
                              clear H
                              go_wp2
                              go_roundg k3
                              case measure => have := HK1.out; have := HK2.out; have := HK3.out; omega
                              case rel => exact ⟨(x1_2), (x5_2), (wrap64 (x18_2 + 1)), qS, qS, H', ⟨by have := HK1.out; have := HK2.out; have := HK3.out; omega⟩, ⟨qR HO_1.out⟩, ⟨by (with_reducible repeat (first | refine blk_drewN ?_ _ | refine blk_drew ?_ | refine blk_alloc ?_ _)); exact BK247.out⟩, ⟨by repeat (first | (with_reducible first | exact HK.out | apply Kept.alloc | apply Kept.drewN | apply Kept.drew | refine Kept.setCell ?_ (.inr GW247.out) _) | exact HK.out)⟩, ⟨qB⟩⟩
                · rw [if_neg c8] at H
                  exact absurd H (by simp)
              · rw [if_neg c7] at H
                exact absurd H (by simp)
            · rw [if_neg c6] at H
              have c6b0 : decide (x18_2 < (l0_1.length : Int)) = false := decide_eq_false c6
              clear c6
              have H' := Aside0.mk H
              clear H
              go_wp2
              go_roundg k2
              case measure => have := HK1.out; have := HK2.out; omega
              case rel => exact ⟨(x1_2), (x5_2), qS, H', ⟨by have := HK1.out; have := HK2.out; omega⟩, ⟨qR HO_1.out⟩, ⟨by (with_reducible repeat (first | refine blk_drewN ?_ _ | refine blk_drew ?_ | refine blk_alloc ?_ _)); exact BK247.out⟩, ⟨by repeat (first | (with_reducible first | exact HK.out | apply Kept.alloc | apply Kept.drewN | apply Kept.drew | refine Kept.setCell ?_ (.inr GW247.out) _) | exact HK.out)⟩, ⟨qB⟩⟩
      · replace c4 := Bool.eq_false_iff.mpr c4
        subst c4
        have H1 : (some (false, x1_1)) = some (r1, r2) := by rw [if_neg (show ¬ (false = true) by decide)] at H; exact H
        clear H
        have H := H1
        clear H1
        simp only [Option.some.injEq, Prod.mk.injEq] at H
        obtain ⟨rfl, rfl⟩ := H
        go_wp2
        go_ret
        exact ⟨qE, qR HO_1.out, qB, by repeat (first | (with_reducible first | exact HK.out | apply Kept.alloc | apply Kept.drewN | apply Kept.drew | refine Kept.setCell ?_ (.inr GW247.out) _) | exact HK.out)⟩

end Go.Proofs.Ytdmngodinbelfaa.X
