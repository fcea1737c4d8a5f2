/- Go functions as Lean functions, each with the proof that its call comes to just its answer. Conditions: the arguments are of their kinds. -/
import Derived.Test.YtimkjhdopncimaaX0
import Derived.Test.YtimkjhdopncimaaX1
import Derived.Test.YtimkjhdopncimaaX23
namespace Go.Proofs.Ytimkjhdopncimaa.X
open Go.RowKit Go.Proofs.YtimkjhdopncimaaW.PrintWords Go.Proofs.YtimkjhdopncimaaW.PrintLast Go.Proofs.YtimkjhdopncimaaW.PrintMore
attribute [local go_sem] max2_int min2_int max_two min_two max_three min_three max_four min_four   -- for this text's walks alone
set_option linter.unusedVariables false
set_option linter.unusedSimpArgs false

/-! ### spec_l4Cone: function 54 -/
mutual
def spec_l4Cone.l0 : Nat → List Bool → List Int → Int → Int → Int → List (S59) → List Int → Option (List Int)
 | 0, _, _, _, _, _, _, _ => none
 | k + 1, x5, x13, x14, x15, x515000, x515001, x515002 => if x15 < x14 then (if 0 ≤ x15 then (if x15 < (x13.length : Int) then (if 0 ≤ (rd x13 x15) then (if (rd x13 x15) < (x5.length : Int) then (spec_l4Cone.l0 k (x5.set ((rd x13 x15) : Int).toNat true) x13 x14 (wrap64 (x15 + 1)) x515000 x515001 x515002) else (none)) else (none)) else (none)) else (none)) else (spec_l4Cone.l1 k x5 ([] : List Int) (wrap64 ((x5.length : Int) - 1)) x515000 x515001 x515002)
def spec_l4Cone.l1 : Nat → List Bool → List Int → Int → Int → List (S59) → List Int → Option (List Int)
 | 0, _, _, _, _, _, _ => none
 | k + 1, x5, x8, x9, x515000, x515001, x515002 => if x9 ≥ 0 then (if 0 ≤ x9 then (if x9 < (x5.length : Int) then (if rdOf false x5 x9 = true then ((spec_l1Put.f k x8 x9).bind fun t522 => (if x9 ≥ x515000 then (if 0 ≤ (wrap64 (x9 - x515000)) then (if (wrap64 (x9 - x515000)) < (x515001.length : Int) then (spec_l4Cone.j2 k x5 t522 x9 (((rd_T59 x515001 (wrap64 (x9 - x515000))).f0) != 1) x515000 x515001 x515002) else (none)) else (none)) else (spec_l4Cone.j2 k x5 t522 x9 false x515000 x515001 x515002))) else (spec_l4Cone.l1 k x5 x8 (wrap64 (x9 - 1)) x515000 x515001 x515002)) else (none)) else (none)) else (some x8)
def spec_l4Cone.j2 : Nat → List Bool → List Int → Int → Bool → Int → List (S59) → List Int → Option (List Int)
 | 0, _, _, _, _, _, _, _ => none
 | k + 1, x5, x8, x9, x53, x515000, x515001, x515002 => if x53 = true then (if 0 ≤ (wrap64 (x9 - x515000)) then (if (wrap64 (x9 - x515000)) < (x515001.length : Int) then (if 0 ≤ ((rd_T59 x515001 (wrap64 (x9 - x515000))).f1) then (if ((rd_T59 x515001 (wrap64 (x9 - x515000))).f1) < (x5.length : Int) then ((some (x5.set (((rd_T59 x515001 (wrap64 (x9 - x515000))).f1) : Int).toNat true : List Bool)).bind fun y527 => (if ((rd_T59 x515001 (wrap64 (x9 - x515000))).f0) = 2 then (spec_l4Cone.l1 k y527 x8 (wrap64 (x9 - 1)) x515000 x515001 x515002) else (if 0 ≤ ((rd_T59 x515001 (wrap64 (x9 - x515000))).f2) then (if ((rd_T59 x515001 (wrap64 (x9 - x515000))).f2) < (x5.length : Int) then (spec_l4Cone.l1 k (y527.set (((rd_T59 x515001 (wrap64 (x9 - x515000))).f2) : Int).toNat true) x8 (wrap64 (x9 - 1)) x515000 x515001 x515002) else (none)) else (none)))) else (none)) else (none)) else (none)) else (none)) else (spec_l4Cone.l1 k x5 x8 (wrap64 (x9 - 1)) x515000 x515001 x515002)
end
def spec_l4Cone.f (k : Nat) (a0_0 : Int) (l0_1 : List (S59)) (l0_2 : List Int) (l1 : List Int) : Option (List Int) := (spec_l4Wires.f a0_0 l0_1 l0_2).bind fun t515 => (if 0 ≤ t515 then (if (t515 : Int).toNat ≤ 281474976710656 then (spec_l4Cone.l0 k (List.replicate (t515 : Int).toNat false) l1 (l1.length : Int) 0 a0_0 l0_1 l0_2) else (none)) else (none))
theorem spec_l4Cone.mono_l : ∀ k, (∀ y0 y1 y2 y3 y4 y5 y6, LeO (spec_l4Cone.l0 k y0 y1 y2 y3 y4 y5 y6) (spec_l4Cone.l0 (k + 1) y0 y1 y2 y3 y4 y5 y6)) ∧ (∀ y0 y1 y2 y3 y4 y5, LeO (spec_l4Cone.l1 k y0 y1 y2 y3 y4 y5) (spec_l4Cone.l1 (k + 1) y0 y1 y2 y3 y4 y5)) ∧ (∀ y0 y1 y2 y3 y4 y5 y6, LeO (spec_l4Cone.j2 k y0 y1 y2 y3 y4 y5 y6) (spec_l4Cone.j2 (k + 1) y0 y1 y2 y3 y4 y5 y6))
 | 0 => ⟨fun _ _ _ _ _ _ _ r h => by simp [spec_l4Cone.l0] at h, fun _ _ _ _ _ _ r h => by simp [spec_l4Cone.l1] at h, fun _ _ _ _ _ _ _ r h => by simp [spec_l4Cone.j2] at h⟩
 | k + 1 => by
  obtain ⟨ih0, ih1, ih2⟩ := spec_l4Cone.mono_l k
  refine ⟨?_, ?_, ?_⟩
  ·intro y0 y1 y2 y3 y4 y5 y6
   unfold spec_l4Cone.l0
   repeat' first
   | (with_reducible exact ih0 _ _ _ _ _ _ _)
   | (with_reducible exact ih1 _ _ _ _ _ _)
   | (with_reducible exact ih2 _ _ _ _ _ _ _)
   | (with_reducible exact spec_l1Put.mono _ _ _)
   | (with_reducible first | exact LeO.refl _ | exact LeO.none _ | refine LeO.ite ?_ ?_ | refine LeO.bind ?_ (fun _ => ?_))
   | exact ih0 _ _ _ _ _ _ _
   | exact ih1 _ _ _ _ _ _
   | exact ih2 _ _ _ _ _ _ _
   | exact spec_l1Put.mono _ _ _
   | exact LeO.none _ | refine LeO.ite ?_ ?_ | refine LeO.bind ?_ (fun _ => ?_)
  ·intro y0 y1 y2 y3 y4 y5
   unfold spec_l4Cone.l1
   repeat' first
   | (with_reducible exact ih0 _ _ _ _ _ _ _)
   | (with_reducible exact ih1 _ _ _ _ _ _)
   | (with_reducible exact ih2 _ _ _ _ _ _ _)
   | (with_reducible exact spec_l1Put.mono _ _ _)
   | (with_reducible first | exact LeO.refl _ | exact LeO.none _ | refine LeO.ite ?_ ?_ | refine LeO.bind ?_ (fun _ => ?_))
   | exact ih0 _ _ _ _ _ _ _
   | exact ih1 _ _ _ _ _ _
   | exact ih2 _ _ _ _ _ _ _
   | exact spec_l1Put.mono _ _ _
   | exact LeO.none _ | refine LeO.ite ?_ ?_ | refine LeO.bind ?_ (fun _ => ?_)
  ·intro y0 y1 y2 y3 y4 y5 y6
   unfold spec_l4Cone.j2
   repeat' first
   | (with_reducible exact ih0 _ _ _ _ _ _ _)
   | (with_reducible exact ih1 _ _ _ _ _ _)
   | (with_reducible exact ih2 _ _ _ _ _ _ _)
   | (with_reducible exact spec_l1Put.mono _ _ _)
   | (with_reducible first | exact LeO.refl _ | exact LeO.none _ | refine LeO.ite ?_ ?_ | refine LeO.bind ?_ (fun _ => ?_))
   | exact ih0 _ _ _ _ _ _ _
   | exact ih1 _ _ _ _ _ _
   | exact ih2 _ _ _ _ _ _ _
   | exact spec_l1Put.mono _ _ _
   | exact LeO.none _ | refine LeO.ite ?_ ?_ | refine LeO.bind ?_ (fun _ => ?_)
theorem spec_l4Cone.mono : ∀ a0 a1 a2 a3 k, LeO (spec_l4Cone.f k a0 a1 a2 a3) (spec_l4Cone.f (k + 1) a0 a1 a2 a3) := by
 intro a0 a1 a2 a3 k
 obtain ⟨ih0, ih1, ih2⟩ := spec_l4Cone.mono_l k
 unfold spec_l4Cone.f
 repeat' first
   | (with_reducible exact ih0 _ _ _ _ _ _ _)
   | (with_reducible exact ih1 _ _ _ _ _ _)
   | (with_reducible exact ih2 _ _ _ _ _ _ _)
   | (with_reducible exact spec_l1Put.mono _ _ _)
   | (with_reducible first | exact LeO.refl _ | exact LeO.none _ | refine LeO.ite ?_ ?_ | refine LeO.bind ?_ (fun _ => ?_))
   | exact ih0 _ _ _ _ _ _ _
   | exact ih1 _ _ _ _ _ _
   | exact ih2 _ _ _ _ _ _ _
   | exact spec_l1Put.mono _ _ _
   | exact LeO.none _ | refine LeO.ite ?_ ?_ | refine LeO.bind ?_ (fun _ => ?_)
set_option maxHeartbeats 8000000 in
set_option maxRecDepth 100000 in
theorem spec_l4Cone.calls (k : Nat) (a0_0 : Int) (A0_1 : Option Addr) (c0_1 : Nat) (l0_1 : List (S59)) (A0_2 : Option Addr) (c0_2 : Nat) (l0_2 : List Int) (A1 : Option Addr) (c1 : Nat) (l1 : List Int) (r : List Int) (w : World) (hr0_1 : Kd.C k59 w A0_1 l0_1.length l0_1) (hc0_1 : l0_1.length ≤ c0_1) (hr0_2 : Kd.C (Kd.int .i64) w A0_2 l0_2.length l0_2) (hc0_2 : l0_2.length ≤ c0_2) (hr1 : Kd.C (Kd.int .i64) w A1 l1.length l1) (hc1 : l1.length ≤ c1) (h : spec_l4Cone.f k a0_0 l0_1 l0_2 l1 = some r) :
  Calls Try.prog 54 #[.agg #[.int .i64 a0_0, .slice A0_1 l0_1.length c0_1, .slice A0_2 l0_2.length c0_2], .slice A1 l1.length c1] w fun e w' => ∃ v0_ : Value, e = .returned (v0_) ∧ Kd.R (Kd.int .i64) 3 w' w.heap.size (fun _ => True) v0_ r ∧ Below w.heap.size w w' := by
 have hu30 := Try.underlying30
 have HR0_1 := Aside0.mk hr0_1
 have HC0_1 := Aside0.mk hc0_1
 clear hr0_1 hc0_1
 have HR0_2 := Aside0.mk hr0_2
 have HC0_2 := Aside0.mk hc0_2
 clear hr0_2 hc0_2
 have HR1 := Aside0.mk hr1
 have HC1 := Aside0.mk hc1
 clear hr1 hc1
 have HB := Aside0.mk (Below.refl w.heap.size w)
 have H : ((spec_l4Wires.f a0_0 l0_1 l0_2).bind fun t515 => (if 0 ≤ t515 then (if (t515 : Int).toNat ≤ 281474976710656 then (spec_l4Cone.l0 k (List.replicate (t515 : Int).toNat false) l1 (l1.length : Int) 0 a0_0 l0_1 l0_2) else (none)) else (none))) = some r := h
 clear h
 replace H := Option.bind_eq_some_iff.mp H
 obtain ⟨t515, A30, H⟩ := H
 replace H : (if 0 ≤ t515 then (if (t515 : Int).toNat ≤ 281474976710656 then (spec_l4Cone.l0 k (List.replicate (t515 : Int).toNat false) l1 (l1.length : Int) 0 a0_0 l0_1 l0_2) else (none)) else (none)) = some r := H
 have A3 := Aside0.mk A30
 clear A30
 by_cases c4 : 0 ≤ t515
 ·rw [if_pos c4] at H
  have c4b0 := eq_true c4
  have c4b1 : decide (0 ≤ t515) = true := decide_eq_true c4
  clear c4
  by_cases c5 : (t515 : Int).toNat ≤ 281474976710656
  ·rw [if_pos c5] at H
   have c5b0 := eq_true c5
   have c5b1 : decide ((t515 : Int).toNat ≤ 281474976710656) = true := decide_eq_true c5
   clear c5
   obtain ⟨y516, hy516⟩ : ∃ y_ : List Bool, y_ = (List.replicate (t515 : Int).toNat false) := ⟨_, rfl⟩
   replace H : (spec_l4Cone.l0 k y516 l1 (l1.length : Int) 0 a0_0 l0_1 l0_2) = some r := qY hy516 H
   have Ny516 := Aside0.mk hy516
   clear hy516
   have H' := Aside0.mk H
   clear H
   go_enter Try.func54, Try.ntmps54
   go_wp2_with (first | ((with_reducible refine gate_dst (N := 2) rfl ?_); refine box_event ?hg (N := 2) ?hd (cs := #[.int .i64 a0_0, .slice A0_1 l0_1.length c0_1, .slice A0_2 l0_2.length c0_2]) (t := 30) ?hr ?_; (case hd => rfl); (case hg => rfl); (case hr => first | (go_simp; done) | (go_simp; rfl)); intro gb514 hg w6 hbox hb; have n0_ := Aside0.mk (below_step (qB) hb); have n1_ := Aside0.mk (hbox); have n2_ := Aside0.mk ((by rw [hg]; exact (below_size (qB)) : w.heap.size ≤ gb514)); have n3_ := Aside0.mk ((by rw [hg]; exact (below_size (qB)) : w.heap.size ≤ gb514)); clear HB; have HB := n0_; have BK514 := n1_; have GW514 := n2_; have GE514 := n3_; clear n0_ n1_ n2_ n3_; clear hb hbox hg; have hcz7_0 : w6.cell? ⟨gb514, 0, none⟩ = some (.int .i64 a0_0) := (blk_cell BK514.out 0).trans rfl; have hcz7_1 : w6.cell? ⟨gb514, 1, none⟩ = some (.slice A0_1 l0_1.length c0_1) := (blk_cell BK514.out 1).trans rfl; have hcz7_2 : w6.cell? ⟨gb514, 2, none⟩ = some (.slice A0_2 l0_2.length c0_2) := (blk_cell BK514.out 2).trans rfl; have hfz7_0 := blk_frozen BK514.out 0; have hfz7_1 := blk_frozen BK514.out 1; have hfz7_2 := blk_frozen BK514.out 2) | ((with_reducible refine gate_callee (f := 45) rfl ?_); refine goesL_ (some 11) rfl rfl Try.func45 (by kernel_rfl) rfl #[.agg #[.int .i64 a0_0, .slice A0_1 l0_1.length c0_1, .slice A0_2 l0_2.length c0_2]] rfl qG ?_; (with_reducible refine (spec_l4Wires.calls a0_0 _ _ l0_1 _ _ l0_2 t515 _ ?side1 ?side2 ?side3 ?side4 A3.out).mono ?_); (case side1 => exact qC (Kd.C_below HR0_1.out HB.out)); (case side2 => exact HC0_1.out); (case side3 => exact qC (Kd.C_below HR0_2.out HB.out)); (case side4 => exact HC0_2.out); rintro e w8 ⟨rfl, hb⟩; refine ⟨_, rfl, ?_⟩; have n0_ := Aside0.mk (blk_below (g := gb514) (o := .cells #[.int .i64 a0_0, .slice A0_1 l0_1.length c0_1, .slice A0_2 l0_2.length c0_2] 30 (0, 0)) (qK BK514.out) hb); have n1_ := Aside0.mk (below_step (qB) hb); clear BK514; clear HB; have BK514 := n0_; have HB := n1_; clear n0_ n1_; (try clear hb); (try clear hb2); (try clear hk); (try clear hi)) | ((with_reducible refine gate_dst (N := 12) rfl ?_); refine Kd.R_make Kd.bool _ 4 rfl (N := 12) rfl 34 _ _ rfl t515 rfl rfl Try.underlying34 (.bool false) 1 info4 rfl (by decide) (by omega) false (ok := fun _ => True) (okp := fun _ => True) rfl (fun _ hk => hk) trivial qD (Nat.le_trans (Nat.mul_le_mul_right _ (qD : t515.toNat ≤ 281474976710656)) (by omega)) (Below.refl _ _) (Nat.le_refl _) ?_; intro v517 w9 ho10 hb hg_ hnew_; clear hg_ hnew_; (first | rw [← Ny516.out] at ho10 | (simp only [Int.reduceToNat] at ho10; rw [← Ny516.out] at ho10)); have n0_ := Aside0.mk (Kd.R_lower ho10 (below_size (qB))); have n1_ := Aside0.mk (blk_below (g := gb514) (o := .cells #[.int .i64 a0_0, .slice A0_1 l0_1.length c0_1, .slice A0_2 l0_2.length c0_2] 30 (0, 0)) (qK BK514.out) hb); have n2_ := Aside0.mk (below_step (qB) hb); clear BK514; clear HB; have HO518 := n0_; have BK514 := n1_; have HB := n2_; clear n0_ n1_ n2_; clear hb ho10))
   go_loopg [15] k (fun kq v15 w' => ∃ (x5_1 : List Bool) (x15_1 : Int), v15 = .int .i64 x15_1 ∧ Aside0 (spec_l4Cone.l0 kq x5_1 l1 (l1.length : Int) x15_1 a0_0 l0_1 l0_2 = some r) ∧ Aside0 (kq ≤ k) ∧ Aside0 (Kd.R Kd.bool 4 w' w.heap.size (fun _ => True) v517 x5_1) ∧ Aside0 (w'.heap[gb514]? = some (.cells #[.int .i64 a0_0, (.slice A0_1 l0_1.length c0_1), (.slice A0_2 l0_2.length c0_2)] 30 (0, 0))) ∧ Aside0 (Below w.heap.size w w'))
   case atStart => exact ⟨(y516), (0), qS, H', ⟨Nat.le_refl _⟩, ⟨qR HO518.out⟩, ⟨by exact qK BK514.out⟩, ⟨qB⟩⟩
   case round =>
    clear H'
    try clear c1
    try clear p2
    try clear c4
    try clear c4b0
    try clear c4b1
    try clear c5
    try clear c5b0
    try clear c5b1
    try clear hcz7_0
    try clear hcz7_1
    try clear hcz7_2
    try clear hfz7_0
    try clear hfz7_1
    try clear hfz7_2
    obtain ⟨x5_1, x15_1, rfl, HA, HK1, HO_5, BK514, HB⟩ := hrel
    cases gk with
    | zero => exact absurd HA.out (by simp [spec_l4Cone.l0])
    | succ k1 =>
     have H := HA.out
     clear HA
     simp only [spec_l4Cone.l0] at H
     by_cases c11 : x15_1 < (l1.length : Int)
     ·rw [if_pos c11] at H
      have c11b0 : decide (x15_1 < (l1.length : Int)) = true := decide_eq_true c11
      clear c11
      by_cases c12 : 0 ≤ x15_1
      ·rw [if_pos c12] at H
       have c12b0 : decide (0 ≤ x15_1) = true := decide_eq_true c12
       clear c12
       by_cases c13 : x15_1 < (l1.length : Int)
       ·rw [if_pos c13] at H
        have c13b0 : decide (x15_1 < (l1.length : Int)) = true := decide_eq_true c13
        clear c13
        by_cases c14 : 0 ≤ (rd l1 x15_1)
        ·rw [if_pos c14] at H
         have c14b0 : decide (0 ≤ (rd l1 x15_1)) = true := decide_eq_true c14
         clear c14
         by_cases c15 : (rd l1 x15_1) < (x5_1.length : Int)
         ·rw [if_pos c15] at H
          have c15b0 : decide ((rd l1 x15_1) < (x5_1.length : Int)) = true := decide_eq_true c15
          clear c15
          obtain ⟨y520, hy520⟩ : ∃ y_ : List Bool, y_ = (x5_1.set ((rd l1 x15_1) : Int).toNat true) := ⟨_, rfl⟩
          replace H : (spec_l4Cone.l0 k1 y520 l1 (l1.length : Int) (wrap64 (x15_1 + 1)) a0_0 l0_1 l0_2) = some r := qY hy520 H
          have Ny520 := Aside0.mk hy520
          clear hy520
          have H' := Aside0.mk H
          clear H
          have p519 : 0 ≤ (x15_1 : Int) := qD
          have q519 : x15_1 < (l1.length : Int) := qD
          obtain ⟨ad519, e519, hx519_0⟩ := Kd.at_int HR1.out x15_1 p519 q519
          cases e519
          replace hx519_0 := (HB.out.cell (World.block_lt_of_cell? w _ hx519_0)).trans hx519_0
          replace p519 := eq_true p519
          replace q519 := eq_true q519
          have p16 : 0 ≤ ((rd l1 x15_1) : Int) := qD
          have q16 : ((rd l1 x15_1) : Int) < ((x5_1.length : Int) : Int) := qD
          obtain ⟨go16, co16, eo16, gb16, gl16, cl16, HG16⟩ := Kd.R_form HO_5.out (by omega)
          (first | cases eo16 | (injection eo16 with ea_ en_ ec_; (first | subst ea_ | (injection ea_ with ea_; subst ea_)); subst ec_; clear en_))
          have GB16 := Aside0.mk gb16
          have GG16 := Aside0.mk HG16
          clear gb16 gl16 HG16
          obtain ⟨hx16_0, hf16_0⟩ := Kd.R_celln false HO_5.out ((rd l1 x15_1) : Int) p16 q16
          replace p16 := eq_true p16
          replace q16 := eq_true q16
          have HP17 := Kd.R_putg HO_5.out ((rd l1 x15_1) : Int) true
          go_wp2_with (first | ((with_reducible refine gate_store (t := 4) (p := 21) rfl ?_); refine store_event (t := 4) (p := 21) (v := ?vo_w18) (w1 := (wr.setCell ⟨go16, ((rd l1 x15_1) : Int).toNat, none⟩ (.bool true))) ?hg ?ho ?hn ?hr ?_; (case ho => rfl); (case hg => rfl); (case hn => rfl); (case hr => first | (go_simp; done) | (go_simp; rfl)); intro w18 hw; have hg : wr.grownBy w18 (some go16) := (by rw [hw]; exact HP17.2); have hp_ : Kd.R Kd.bool 4 w18 w.heap.size (fun _ => True) (.slice (some ⟨go16, 0, none⟩) x5_1.length co16) y520 := (by rw [hw, Ny520.out]; exact HP17.1); clear HP17; have n0_ := Aside0.mk (hp_); have n1_ := Aside0.mk (blk_grown (g := gb514) (o := .cells #[.int .i64 a0_0, .slice A0_1 l0_1.length c0_1, .slice A0_2 l0_2.length c0_2] 30 (0, 0)) (qK BK514.out) hg (Kd.R_ne HO_5.out BK514.out (by decide))); have n2_ := Aside0.mk ((by rw [hw]; exact below_set (HB.out) GB16.out : Below w.heap.size w w18)); clear HO_5; clear BK514; clear HB; have HO_5 := n0_; have BK514 := n1_; have HB := n2_; clear n0_ n1_ n2_; clear hg hw hp_))
          go_roundg k1
          case measure => have := HK1.out; omega
          case rel => exact ⟨(y520), (wrap64 (x15_1 + 1)), qS, H', ⟨by have := HK1.out; omega⟩, ⟨qR HO_5.out⟩, ⟨by exact qK BK514.out⟩, ⟨qB⟩⟩
         ·rw [if_neg c15] at H
          exact absurd H (by simp)
        ·rw [if_neg c14] at H
         exact absurd H (by simp)
       ·rw [if_neg c13] at H
        exact absurd H (by simp)
      ·rw [if_neg c12] at H
       exact absurd H (by simp)
     ·rw [if_neg c11] at H
      have c11b0 : decide (x15_1 < (l1.length : Int)) = false := decide_eq_false c11
      clear c11
      have H' := Aside0.mk H
      clear H
      obtain ⟨Ao19, co19, eo19⟩ := Kd.R_slice HO_5.out
      subst eo19
      go_wp2
      go_loopg [8, 9] k1 (fun kq v8 v9 w' => ∃ (x5_2 : List Bool) (x8_2 : List Int) (x9_2 : Int), v9 = .int .i64 x9_2 ∧ Aside0 (spec_l4Cone.l1 kq x5_2 x8_2 x9_2 a0_0 l0_1 l0_2 = some r) ∧ Aside0 (kq ≤ k1) ∧ Aside0 (Kd.R Kd.bool 4 w' w.heap.size (fun _ => True) (.slice Ao19 x5_1.length co19) x5_2) ∧ Aside0 (Kd.R (Kd.int .i64) 3 w' w.heap.size (fun _ => True) v8 x8_2) ∧ Aside0 (w'.heap[gb514]? = some (.cells #[.int .i64 a0_0, (.slice A0_1 l0_1.length c0_1), (.slice A0_2 l0_2.length c0_2)] 30 (0, 0))) ∧ Aside0 (Below w.heap.size w w'))
      case atStart => exact ⟨(x5_1), (([] : List Int)), (wrap64 ((x5_1.length : Int) - 1)), qS, H', ⟨Nat.le_refl _⟩, ⟨qR HO_5.out⟩, ⟨by first | exact Kd.R_nil _ _ _ _ _ | exact Kd.N_nil _ _ _ _ _ | exact Kd.V_nil _ _ _ _ _ | exact Kd.Q_nil _ _ _ _ _ | exact Kd.S_nil _ _ _ _ _⟩, ⟨by exact qK BK514.out⟩, ⟨qB⟩⟩
      case round =>
       clear H'
       try clear c1
       try clear p1
       try clear q1
       try clear hx1
       try clear p2
       try clear c4
       try clear c4b0
       try clear c4b1
       try clear c5
       try clear c5b0
       try clear c5b1
       try clear p5
       try clear q5
       try clear hx5
       try clear p6
       try clear c11
       try clear c11b0
       try clear c12
       try clear c12b0
       try clear c13
       try clear c13b0
       try clear c14
       try clear c14b0
       try clear c15
       try clear c15b0
       try clear p16
       try clear q16
       try clear hx16
       try clear hf16
       try clear hcz7_0
       try clear hcz7_1
       try clear hcz7_2
       try clear hfz7_0
       try clear hfz7_1
       try clear hfz7_2
       try clear hx16_0
       try clear hx519_0
       try clear p16
       try clear p2
       try clear p519
       try clear q16
       try clear q519
       obtain ⟨x5_2, x8_2, x9_2, rfl, HA, HK2, HO_5, HO_8, BK514, HB⟩ := hrel
       have hl5_2 := (Kd.R_reads' HO_5.out).1
       rw [hl5_2] at HO_5
       (try simp only [hl5_2])
       (try simp only [hl5_2] at BK514)
       (try simp only [hl5_2] at HO_8)
       cases gk with
       | zero => exact absurd HA.out (by simp [spec_l4Cone.l1])
       | succ k2 =>
        have H := HA.out
        clear HA
        simp only [spec_l4Cone.l1] at H
        by_cases c20 : x9_2 ≥ 0
        ·rw [if_pos c20] at H
         have c20b0 : decide (0 ≤ x9_2) = true := decide_eq_true c20
         clear c20
         by_cases c21 : 0 ≤ x9_2
         ·rw [if_pos c21] at H
          have c21b0 : decide (0 ≤ x9_2) = true := decide_eq_true c21
          clear c21
          by_cases c22 : x9_2 < (x5_2.length : Int)
          ·rw [if_pos c22] at H
           have c22b0 : decide (x9_2 < (x5_2.length : Int)) = true := decide_eq_true c22
           clear c22
           obtain ⟨bq23, hbq23⟩ : ∃ b_ : Bool, b_ = (rdOf false x5_2 x9_2) := ⟨_, rfl⟩
           replace H : (if bq23 = true then ((spec_l1Put.f k2 x8_2 x9_2).bind fun t522 => (if x9_2 ≥ a0_0 then (if 0 ≤ (wrap64 (x9_2 - a0_0)) then (if (wrap64 (x9_2 - a0_0)) < (l0_1.length : Int) then (spec_l4Cone.j2 k2 x5_2 t522 x9_2 (((rd_T59 l0_1 (wrap64 (x9_2 - a0_0))).f0) != 1) a0_0 l0_1 l0_2) else (none)) else (none)) else (spec_l4Cone.j2 k2 x5_2 t522 x9_2 false a0_0 l0_1 l0_2))) else (spec_l4Cone.l1 k2 x5_2 x8_2 (wrap64 (x9_2 - 1)) a0_0 l0_1 l0_2)) = some r := by rw [← hbq23] at H; exact H
           have Nbq23 := Aside0.mk hbq23
           clear hbq23
           by_cases c24 : bq23 = true
           ·subst c24
            have H1 : ((spec_l1Put.f k2 x8_2 x9_2).bind fun t522 => (if x9_2 ≥ a0_0 then (if 0 ≤ (wrap64 (x9_2 - a0_0)) then (if (wrap64 (x9_2 - a0_0)) < (l0_1.length : Int) then (spec_l4Cone.j2 k2 x5_2 t522 x9_2 (((rd_T59 l0_1 (wrap64 (x9_2 - a0_0))).f0) != 1) a0_0 l0_1 l0_2) else (none)) else (none)) else (spec_l4Cone.j2 k2 x5_2 t522 x9_2 false a0_0 l0_1 l0_2))) = some r := by rw [if_pos rfl] at H; exact H
            clear H
            have H := H1
            clear H1
            replace H := Option.bind_eq_some_iff.mp H
            obtain ⟨t522, A250, H⟩ := H
            replace H : (if x9_2 ≥ a0_0 then (if 0 ≤ (wrap64 (x9_2 - a0_0)) then (if (wrap64 (x9_2 - a0_0)) < (l0_1.length : Int) then (spec_l4Cone.j2 k2 x5_2 t522 x9_2 (((rd_T59 l0_1 (wrap64 (x9_2 - a0_0))).f0) != 1) a0_0 l0_1 l0_2) else (none)) else (none)) else (spec_l4Cone.j2 k2 x5_2 t522 x9_2 false a0_0 l0_1 l0_2)) = some r := H
            have A25 := Aside0.mk A250
            clear A250
            have HC26 := Aside0.mk H
            clear H
            have p521 : 0 ≤ (x9_2 : Int) := qD
            have q521 : x9_2 < (x5_2.length : Int) := qD
            obtain ⟨ad521, e521, hx521_0⟩ := Kd.at_bool (Kd.R_reads' HO_5.out).2.2 x9_2 p521 q521
            (try rw [← Nbq23.out] at hx521_0)
            cases e521
            replace p521 := eq_true p521
            replace q521 := eq_true q521
            obtain ⟨Ao27, co27, eo27⟩ := Kd.R_slice HO_8.out
            subst eo27
            go_upto_region 13 with (first | ((with_reducible refine gate_callee (f := 77) rfl ?_); refine goesL_ (some 37) rfl rfl Try.func77 (by kernel_rfl) rfl #[.slice Ao27 x8_2.length co27, .int .i64 x9_2] rfl qG ?_; (with_reducible refine (spec_l1Put.calls k2 (fun k_ => some k_ = (.slice Ao27 x8_2.length co27 : Value).ownBlock) (.slice Ao27 x8_2.length co27) x8_2 x9_2 t522 w _ ?side1 ?side2 A25.out).mono ?_); (case side1 => repeat (first | (with_reducible first | exact HB.out | apply below_alloc | apply pw_below_drewN | apply below_drew1 | refine below_set ?_ GE514.out) | exact HB.out)); (case side2 => exact Kd.R_tight rfl HO_8.out); rintro e w28 ⟨v523, rfl, ho0, hb, hkp⟩; refine ⟨_, rfl, ?_⟩; have n0_ := Aside0.mk (Kd.R_mono (ok' := fun k_ => True) (Kd.R_keptB ((Kd.R_apart' HO_5.out (Kd.R_typed HO_8.out) (by decide))) hkp (fun k_ hk_ hs_ => (hk_.2) hs_)) (fun k_ hk_ => trivial)); have n1_ := Aside0.mk (blk_kept (qK BK514.out) hkp (fun hs_ => (fun e_ => (Kd.R_ne HO_8.out BK514.out (by decide)) e_) hs_)); have n2_ := Aside0.mk (Kd.R_mono (ok' := fun k_ => True) ho0 (fun k_ hk_ => trivial)); have n3_ := Aside0.mk (hb); clear HO_5; clear BK514; clear HB; clear HO_8; have HO_5 := n0_; have BK514 := n1_; have HO524 := n2_; have HB := n3_; clear n0_ n1_ n2_ n3_; (try clear hb); (try clear hkp); (try clear ho0)))
            (try simp only [Act.put, List.setIfInBounds_toArray, List.set_cons_zero, List.set_cons_succ])
            go_cut [53] (fun v53 wc => ∃ (kq : Nat) (x53_25 : Bool), v53 = .bool x53_25 ∧ Aside0 (spec_l4Cone.j2 kq x5_2 t522 x9_2 x53_25 a0_0 l0_1 l0_2 = some r) ∧ Aside0 (kq ≤ k2) ∧ Aside0 (Kd.R Kd.bool 4 wc w.heap.size (fun _ => True) (.slice (some ad521) x5_2.length co19) x5_2) ∧ Aside0 (Kd.R (Kd.int .i64) 3 wc w.heap.size (fun _ => True) v523 t522) ∧ Aside0 (wc.heap[gb514]? = some (.cells #[.int .i64 a0_0, (.slice A0_1 l0_1.length c0_1), (.slice A0_2 l0_2.length c0_2)] 30 (0, 0))) ∧ Aside0 (Below w.heap.size w wc))
            case first =>
             have H := HC26.out
             clear HC26
             by_cases c29 : x9_2 ≥ a0_0
             ·rw [if_pos c29] at H
              have c29b0 : decide (a0_0 ≤ x9_2) = true := decide_eq_true c29
              clear c29
              (first | rw [c29b0] | (simp only [i64_w, i32_w]; rw [c29b0]) | skip)
              obtain ⟨ji30, hji30⟩ : ∃ j_ : Int, (wrap64 (x9_2 - a0_0)) = j_ := ⟨_, rfl⟩
              replace H : (if 0 ≤ (ji30) then (if (ji30) < (l0_1.length : Int) then (spec_l4Cone.j2 k2 x5_2 t522 x9_2 (((rd_T59 l0_1 (ji30)).f0) != 1) a0_0 l0_1 l0_2) else (none)) else (none)) = some r := by first | (rw [hji30] at H; exact H) | (simp only [hji30] at H ⊢; exact H)
              have hji30w : (IntKind.i64.wrap (x9_2 - a0_0)) = ji30 := (i64_w _).trans hji30
              by_cases c31 : 0 ≤ (ji30)
              ·rw [if_pos c31] at H
               have c31b0 : decide (0 ≤ (ji30)) = true := decide_eq_true c31
               clear c31
               by_cases c32 : (ji30) < (l0_1.length : Int)
               ·rw [if_pos c32] at H
                have c32b0 : decide ((ji30) < (l0_1.length : Int)) = true := decide_eq_true c32
                clear c32
                have H' := Aside0.mk H
                clear H
                have hcz33_0 : w28.cell? ⟨gb514, 0, none⟩ = some (.int .i64 a0_0) := (blk_cell BK514.out 0).trans rfl
                have hcz33_1 : w28.cell? ⟨gb514, 1, none⟩ = some (.slice A0_1 l0_1.length c0_1) := (blk_cell BK514.out 1).trans rfl
                have hcz33_2 : w28.cell? ⟨gb514, 2, none⟩ = some (.slice A0_2 l0_2.length c0_2) := (blk_cell BK514.out 2).trans rfl
                have hfz33_0 := blk_frozen BK514.out 0
                have hfz33_1 := blk_frozen BK514.out 1
                have hfz33_2 := blk_frozen BK514.out 2
                have p525 : 0 ≤ ((ji30) : Int) := qD
                have q525 : (ji30) < (l0_1.length : Int) := qD
                obtain ⟨ad525, e525, hx525_0, hx525_1, hx525_2⟩ := at_T59 HR0_1.out (ji30) p525 q525
                cases e525
                replace hx525_0 := (HB.out.cell (World.block_lt_of_cell? w _ hx525_0)).trans hx525_0
                replace hx525_1 := (HB.out.cell (World.block_lt_of_cell? w _ hx525_1)).trans hx525_1
                replace hx525_2 := (HB.out.cell (World.block_lt_of_cell? w _ hx525_2)).trans hx525_2
                replace p525 := eq_true p525
                replace q525 := eq_true q525
                go_wp2
                go_meet
                case rel => exact ⟨_, ((((rd_T59 l0_1 (ji30)).f0) != 1)), (by first | rfl | (simp; done) | (simp only [← hji30] <;> (first | rfl | simp)) | (simp [*]; done)), H', ⟨by have := HK1.out; have := HK2.out; first | omega | exact Nat.le_refl _⟩, ⟨by (try simp only [hl5_2]); (with_reducible repeat (first | apply Kd.R_alloc | apply Kd.R_drewN | apply Kd.R_drew)); exact HO_5.out⟩, ⟨by (try simp only [hl5_2]); (with_reducible repeat (first | apply Kd.R_alloc | apply Kd.R_drewN | apply Kd.R_drew)); exact HO524.out⟩, ⟨by (try simp only [hl5_2]); exact qK BK514.out⟩, ⟨qB⟩⟩
               ·rw [if_neg c32] at H
                exact absurd H (by simp)
              ·rw [if_neg c31] at H
               exact absurd H (by simp)
             ·rw [if_neg c29] at H
              have c29b0 : decide (a0_0 ≤ x9_2) = false := decide_eq_false c29
              clear c29
              (first | rw [c29b0] | (simp only [i64_w, i32_w]; rw [c29b0]) | skip)
              have H' := Aside0.mk H
              clear H
              have hcz34_0 : w28.cell? ⟨gb514, 0, none⟩ = some (.int .i64 a0_0) := (blk_cell BK514.out 0).trans rfl
              have hcz34_1 : w28.cell? ⟨gb514, 1, none⟩ = some (.slice A0_1 l0_1.length c0_1) := (blk_cell BK514.out 1).trans rfl
              have hcz34_2 : w28.cell? ⟨gb514, 2, none⟩ = some (.slice A0_2 l0_2.length c0_2) := (blk_cell BK514.out 2).trans rfl
              have hfz34_0 := blk_frozen BK514.out 0
              have hfz34_1 := blk_frozen BK514.out 1
              have hfz34_2 := blk_frozen BK514.out 2
              go_wp2
              go_meet
              case rel => exact ⟨_, (false), qS, H', ⟨by have := HK1.out; have := HK2.out; first | omega | exact Nat.le_refl _⟩, ⟨by (try simp only [hl5_2]); (with_reducible repeat (first | apply Kd.R_alloc | apply Kd.R_drewN | apply Kd.R_drew)); exact HO_5.out⟩, ⟨by (try simp only [hl5_2]); (with_reducible repeat (first | apply Kd.R_alloc | apply Kd.R_drewN | apply Kd.R_drew)); exact HO524.out⟩, ⟨by (try simp only [hl5_2]); exact qK BK514.out⟩, ⟨qB⟩⟩
            case rest =>
             clear HC26
             try clear c1
             try clear p1
             try clear q1
             try clear hx1
             try clear c2
             try clear p2
             try clear q2
             try clear c3
             try clear c4
             try clear c4b0
             try clear c4b1
             try clear c5
             try clear c5b0
             try clear c5b1
             try clear p5
             try clear q5
             try clear hx5
             try clear p6
             try clear c7
             try clear c11
             try clear c11b0
             try clear c12
             try clear c12b0
             try clear c13
             try clear c13b0
             try clear c14
             try clear c14b0
             try clear c15
             try clear c15b0
             try clear p16
             try clear q16
             try clear hx16
             try clear hf16
             try clear c20
             try clear c20b0
             try clear c21
             try clear c21b0
             try clear c22
             try clear c22b0
             try clear q23
             try clear c24
             try clear c29
             try clear c29b0
             try clear c31
             try clear c31b0
             try clear c32
             try clear c32b0
             try clear hcz33_0
             try clear hcz33_1
             try clear hcz33_2
             try clear hcz34_0
             try clear hcz34_1
             try clear hcz34_2
             try clear hcz7_0
             try clear hcz7_1
             try clear hcz7_2
             try clear hfz33_0
             try clear hfz33_1
             try clear hfz33_2
             try clear hfz34_0
             try clear hfz34_1
             try clear hfz34_2
             try clear hfz7_0
             try clear hfz7_1
             try clear hfz7_2
             try clear hx16_0
             try clear hx519_0
             try clear hx521_0
             try clear hx525_0
             try clear hx525_1
             try clear hx525_2
             try clear p1
             try clear p16
             try clear p2
             try clear p5
             try clear p519
             try clear p521
             try clear p525
             try clear p6
             try clear q1
             try clear q16
             try clear q5
             try clear q519
             try clear q521
             try clear q525
             obtain ⟨kq, x53_25, rfl, HA, HJ25, HO_5, HO_8, BK514, HB⟩ := hcut
             cases kq with
             | zero => exact absurd HA.out (by simp [spec_l4Cone.j2])
             | succ kj25 =>
              have H := HA.out
              clear HA
              simp only [spec_l4Cone.j2] at H
              by_cases c35 : x53_25 = true
              ·subst c35
               have H1 : (if 0 ≤ (wrap64 (x9_2 - a0_0)) then (if (wrap64 (x9_2 - a0_0)) < (l0_1.length : Int) then (if 0 ≤ ((rd_T59 l0_1 (wrap64 (x9_2 - a0_0))).f1) then (if ((rd_T59 l0_1 (wrap64 (x9_2 - a0_0))).f1) < (x5_2.length : Int) then ((some (x5_2.set (((rd_T59 l0_1 (wrap64 (x9_2 - a0_0))).f1) : Int).toNat true : List Bool)).bind fun y527 => (if ((rd_T59 l0_1 (wrap64 (x9_2 - a0_0))).f0) = 2 then (spec_l4Cone.l1 kj25 y527 t522 (wrap64 (x9_2 - 1)) a0_0 l0_1 l0_2) else (if 0 ≤ ((rd_T59 l0_1 (wrap64 (x9_2 - a0_0))).f2) then (if ((rd_T59 l0_1 (wrap64 (x9_2 - a0_0))).f2) < (x5_2.length : Int) then (spec_l4Cone.l1 kj25 (y527.set (((rd_T59 l0_1 (wrap64 (x9_2 - a0_0))).f2) : Int).toNat true) t522 (wrap64 (x9_2 - 1)) a0_0 l0_1 l0_2) else (none)) else (none)))) else (none)) else (none)) else (none)) else (none)) = some r := by rw [if_pos rfl] at H; exact H
               clear H
               have H := H1
               clear H1
               obtain ⟨ji36, hji36⟩ : ∃ j_ : Int, (wrap64 (x9_2 - a0_0)) = j_ := ⟨_, rfl⟩
               replace H : (if 0 ≤ (ji36) then (if (ji36) < (l0_1.length : Int) then (if 0 ≤ ((rd_T59 l0_1 (ji36)).f1) then (if ((rd_T59 l0_1 (ji36)).f1) < (x5_2.length : Int) then ((some (x5_2.set (((rd_T59 l0_1 (ji36)).f1) : Int).toNat true : List Bool)).bind fun y527 => (if ((rd_T59 l0_1 (ji36)).f0) = 2 then (spec_l4Cone.l1 kj25 y527 t522 (wrap64 (x9_2 - 1)) a0_0 l0_1 l0_2) else (if 0 ≤ ((rd_T59 l0_1 (ji36)).f2) then (if ((rd_T59 l0_1 (ji36)).f2) < (x5_2.length : Int) then (spec_l4Cone.l1 kj25 (y527.set (((rd_T59 l0_1 (ji36)).f2) : Int).toNat true) t522 (wrap64 (x9_2 - 1)) a0_0 l0_1 l0_2) else (none)) else (none)))) else (none)) else (none)) else (none)) else (none)) = some r := by first | (rw [hji36] at H; exact H) | (simp only [hji36] at H ⊢; exact H)
               have hji36w : (IntKind.i64.wrap (x9_2 - a0_0)) = ji36 := (i64_w _).trans hji36
               by_cases c37 : 0 ≤ (ji36)
               ·rw [if_pos c37] at H
                have c37b0 : decide (0 ≤ (ji36)) = true := decide_eq_true c37
                clear c37
                by_cases c38 : (ji36) < (l0_1.length : Int)
                ·rw [if_pos c38] at H
                 have c38b0 : decide ((ji36) < (l0_1.length : Int)) = true := decide_eq_true c38
                 clear c38
                 by_cases c39 : 0 ≤ ((rd_T59 l0_1 (ji36)).f1)
                 ·rw [if_pos c39] at H
                  have c39b0 : decide (0 ≤ ((rd_T59 l0_1 (ji36)).f1)) = true := decide_eq_true c39
                  clear c39
                  by_cases c40 : ((rd_T59 l0_1 (ji36)).f1) < (x5_2.length : Int)
                  ·rw [if_pos c40] at H
                   have c40b0 : decide (((rd_T59 l0_1 (ji36)).f1) < (x5_2.length : Int)) = true := decide_eq_true c40
                   clear c40
                   obtain ⟨y527, hy527⟩ : ∃ y_ : List Bool, y_ = (x5_2.set (((rd_T59 l0_1 (ji36)).f1) : Int).toNat true) := ⟨_, rfl⟩
                   replace H : (if ((rd_T59 l0_1 (ji36)).f0) = 2 then (spec_l4Cone.l1 kj25 y527 t522 (wrap64 (x9_2 - 1)) a0_0 l0_1 l0_2) else (if 0 ≤ ((rd_T59 l0_1 (ji36)).f2) then (if ((rd_T59 l0_1 (ji36)).f2) < (x5_2.length : Int) then (spec_l4Cone.l1 kj25 (y527.set (((rd_T59 l0_1 (ji36)).f2) : Int).toNat true) t522 (wrap64 (x9_2 - 1)) a0_0 l0_1 l0_2) else (none)) else (none))) = some r := qY hy527 H
                   have Ny527 := Aside0.mk hy527
                   clear hy527
                   by_cases c42 : ((rd_T59 l0_1 (ji36)).f0) = 2
                   ·rw [if_pos c42] at H
                    have c42b0 : (((rd_T59 l0_1 (ji36)).f0) == 2) = true := beq_iff_eq.mpr c42
                    have c42b1 : (((rd_T59 l0_1 (ji36)).f0) != 2) = false := bne_eq_false_iff_eq.mpr c42
                    clear c42
                    have H' := Aside0.mk H
                    clear H
                    have hcz43_0 : wc.cell? ⟨gb514, 0, none⟩ = some (.int .i64 a0_0) := (blk_cell BK514.out 0).trans rfl
                    have hcz43_1 : wc.cell? ⟨gb514, 1, none⟩ = some (.slice A0_1 l0_1.length c0_1) := (blk_cell BK514.out 1).trans rfl
                    have hcz43_2 : wc.cell? ⟨gb514, 2, none⟩ = some (.slice A0_2 l0_2.length c0_2) := (blk_cell BK514.out 2).trans rfl
                    have hfz43_0 := blk_frozen BK514.out 0
                    have hfz43_1 := blk_frozen BK514.out 1
                    have hfz43_2 := blk_frozen BK514.out 2
                    have p526 : 0 ≤ ((ji36) : Int) := qD
                    have q526 : (ji36) < (l0_1.length : Int) := qD
                    obtain ⟨ad526, e526, hx526_0, hx526_1, hx526_2⟩ := at_T59 HR0_1.out (ji36) p526 q526
                    cases e526
                    replace hx526_0 := (HB.out.cell (World.block_lt_of_cell? w _ hx526_0)).trans hx526_0
                    replace hx526_1 := (HB.out.cell (World.block_lt_of_cell? w _ hx526_1)).trans hx526_1
                    replace hx526_2 := (HB.out.cell (World.block_lt_of_cell? w _ hx526_2)).trans hx526_2
                    replace p526 := eq_true p526
                    replace q526 := eq_true q526
                    have p41 : 0 ≤ (((rd_T59 l0_1 (ji36)).f1) : Int) := qD
                    have q41 : (((rd_T59 l0_1 (ji36)).f1) : Int) < ((x5_2.length : Int) : Int) := qD
                    obtain ⟨go41, co41, eo41, gb41, gl41, cl41, HG41⟩ := Kd.R_form HO_5.out (by omega)
                    (first | cases eo41 | (injection eo41 with ea_ en_ ec_; (first | subst ea_ | (injection ea_ with ea_; subst ea_)); subst ec_; clear en_))
                    have GB41 := Aside0.mk gb41
                    have GG41 := Aside0.mk HG41
                    clear gb41 gl41 HG41
                    (first | simp only [add_plain] at hx521_0 | skip)
                    obtain ⟨hx41_0, hf41_0⟩ := Kd.R_celln false HO_5.out (((rd_T59 l0_1 (ji36)).f1) : Int) p41 q41
                    replace p41 := eq_true p41
                    replace q41 := eq_true q41
                    have HP44 := Kd.R_putg HO_5.out (((rd_T59 l0_1 (ji36)).f1) : Int) true
                    go_wp2_with (first | ((with_reducible refine gate_store (t := 4) (p := 64) rfl ?_); refine store_event (t := 4) (p := 64) (v := ?vo_w45) (w1 := (wc.setCell ⟨go41, (((rd_T59 l0_1 (ji36)).f1) : Int).toNat, none⟩ (.bool true))) ?hg ?ho ?hn ?hr ?_; (case ho => rfl); (case hg => rfl); (case hn => rfl); (case hr => first | (go_simp; done) | (go_simp; rfl)); intro w45 hw; have hg : wc.grownBy w45 (some go41) := (by rw [hw]; exact HP44.2); have hp_ : Kd.R Kd.bool 4 w45 w.heap.size (fun _ => True) (.slice (some ⟨go41, 0, none⟩) x5_2.length co19) y527 := (by rw [hw, Ny527.out]; exact HP44.1); clear HP44; have n0_ := Aside0.mk (hp_); have n1_ := Aside0.mk (Kd.R_over' (v := (.slice (some ⟨go41, 0, none⟩) x5_2.length co19)) (qR HO_8.out) (Kd.R_typed HO_5.out) (by decide) hg); have n2_ := Aside0.mk (blk_grown (g := gb514) (o := .cells #[.int .i64 a0_0, .slice (some ad526) l0_1.length c0_1, .slice A0_2 l0_2.length c0_2] 30 (0, 0)) (qK BK514.out) hg (Kd.R_ne HO_5.out BK514.out (by decide))); have n3_ := Aside0.mk ((by rw [hw]; exact below_set (HB.out) GB41.out : Below w.heap.size w w45)); clear HO_5; clear HO_8; clear BK514; clear HB; have HO_5 := n0_; have HO_8 := n1_; have BK514 := n2_; have HB := n3_; clear n0_ n1_ n2_ n3_; clear hg hw hp_; have hcz46_0 : w45.cell? ⟨gb514, 0, none⟩ = some (.int .i64 a0_0) := (blk_cell BK514.out 0).trans rfl; have hcz46_1 : w45.cell? ⟨gb514, 1, none⟩ = some (.slice (some ad526) l0_1.length c0_1) := (blk_cell BK514.out 1).trans rfl; have hcz46_2 : w45.cell? ⟨gb514, 2, none⟩ = some (.slice A0_2 l0_2.length c0_2) := (blk_cell BK514.out 2).trans rfl; have hfz46_0 := blk_frozen BK514.out 0; have hfz46_1 := blk_frozen BK514.out 1; have hfz46_2 := blk_frozen BK514.out 2; have p528 : 0 ≤ ((ji36) : Int) := qD; have q528 : (ji36) < (l0_1.length : Int) := qD; obtain ⟨ad528, e528, hx528_0, hx528_1, hx528_2⟩ := at_T59 HR0_1.out (ji36) p528 q528; obtain rfl : ad526 = ad528 := (by injection e528); replace hx528_0 := (HB.out.cell (World.block_lt_of_cell? w _ hx528_0)).trans hx528_0; replace hx528_1 := (HB.out.cell (World.block_lt_of_cell? w _ hx528_1)).trans hx528_1; replace hx528_2 := (HB.out.cell (World.block_lt_of_cell? w _ hx528_2)).trans hx528_2; replace p528 := eq_true p528; replace q528 := eq_true q528))
                    (try simp only [← hl5_2])
                    go_roundg kj25
                    case measure => have := HK1.out; have := HK2.out; have := HJ25.out; omega
                    case rel => exact ⟨(y527), (t522), (wrap64 (x9_2 - 1)), qS, H', ⟨by have := HK1.out; have := HK2.out; have := HJ25.out; omega⟩, ⟨by (try simp only [hl5_2]); (with_reducible repeat (first | apply Kd.R_alloc | apply Kd.R_drewN | apply Kd.R_drew)); exact HO_5.out⟩, ⟨by (try simp only [hl5_2]); (with_reducible repeat (first | apply Kd.R_alloc | apply Kd.R_drewN | apply Kd.R_drew)); exact HO_8.out⟩, ⟨by (try simp only [hl5_2]); exact qK BK514.out⟩, ⟨qB⟩⟩
                   ·rw [if_neg c42] at H
                    have c42b0 : (((rd_T59 l0_1 (ji36)).f0) == 2) = false := beq_eq_false_iff_ne.mpr c42
                    have c42b1 : (((rd_T59 l0_1 (ji36)).f0) != 2) = true := bne_iff_ne.mpr c42
                    by_cases c47 : 0 ≤ ((rd_T59 l0_1 (ji36)).f2)
                    ·rw [if_pos c47] at H
                     have c47b0 : decide (0 ≤ ((rd_T59 l0_1 (ji36)).f2)) = true := decide_eq_true c47
                     clear c47
                     by_cases c48 : ((rd_T59 l0_1 (ji36)).f2) < (x5_2.length : Int)
                     ·rw [if_pos c48] at H
                      have c48b0 : decide (((rd_T59 l0_1 (ji36)).f2) < (x5_2.length : Int)) = true := decide_eq_true c48
                      clear c48
                      obtain ⟨y530, hy530⟩ : ∃ y_ : List Bool, y_ = (y527.set (((rd_T59 l0_1 (ji36)).f2) : Int).toNat true) := ⟨_, rfl⟩
                      replace H : (spec_l4Cone.l1 kj25 y530 t522 (wrap64 (x9_2 - 1)) a0_0 l0_1 l0_2) = some r := qY hy530 H
                      have Ny530 := Aside0.mk hy530
                      clear hy530
                      have H' := Aside0.mk H
                      clear H
                      have hcz50_0 : wc.cell? ⟨gb514, 0, none⟩ = some (.int .i64 a0_0) := (blk_cell BK514.out 0).trans rfl
                      have hcz50_1 : wc.cell? ⟨gb514, 1, none⟩ = some (.slice A0_1 l0_1.length c0_1) := (blk_cell BK514.out 1).trans rfl
                      have hcz50_2 : wc.cell? ⟨gb514, 2, none⟩ = some (.slice A0_2 l0_2.length c0_2) := (blk_cell BK514.out 2).trans rfl
                      have hfz50_0 := blk_frozen BK514.out 0
                      have hfz50_1 := blk_frozen BK514.out 1
                      have hfz50_2 := blk_frozen BK514.out 2
                      have p526 : 0 ≤ ((ji36) : Int) := qD
                      have q526 : (ji36) < (l0_1.length : Int) := qD
                      obtain ⟨ad526, e526, hx526_0, hx526_1, hx526_2⟩ := at_T59 HR0_1.out (ji36) p526 q526
                      cases e526
                      replace hx526_0 := (HB.out.cell (World.block_lt_of_cell? w _ hx526_0)).trans hx526_0
                      replace hx526_1 := (HB.out.cell (World.block_lt_of_cell? w _ hx526_1)).trans hx526_1
                      replace hx526_2 := (HB.out.cell (World.block_lt_of_cell? w _ hx526_2)).trans hx526_2
                      replace p526 := eq_true p526
                      replace q526 := eq_true q526
                      have p41 : 0 ≤ (((rd_T59 l0_1 (ji36)).f1) : Int) := qD
                      have q41 : (((rd_T59 l0_1 (ji36)).f1) : Int) < ((x5_2.length : Int) : Int) := qD
                      obtain ⟨go41, co41, eo41, gb41, gl41, cl41, HG41⟩ := Kd.R_form HO_5.out (by omega)
                      (first | cases eo41 | (injection eo41 with ea_ en_ ec_; (first | subst ea_ | (injection ea_ with ea_; subst ea_)); subst ec_; clear en_))
                      have GB41 := Aside0.mk gb41
                      have GG41 := Aside0.mk HG41
                      clear gb41 gl41 HG41
                      obtain ⟨hx41_0, hf41_0⟩ := Kd.R_celln false HO_5.out (((rd_T59 l0_1 (ji36)).f1) : Int) p41 q41
                      replace p41 := eq_true p41
                      replace q41 := eq_true q41
                      have HP51 := Kd.R_putg HO_5.out (((rd_T59 l0_1 (ji36)).f1) : Int) true
                      go_wp2_with (first | ((with_reducible refine gate_store (t := 4) (p := 64) rfl ?_); refine store_event (t := 4) (p := 64) (v := ?vo_w52) (w1 := (wc.setCell ⟨go41, (((rd_T59 l0_1 (ji36)).f1) : Int).toNat, none⟩ (.bool true))) ?hg ?ho ?hn ?hr ?_; (case ho => rfl); (case hg => rfl); (case hn => rfl); (case hr => first | (go_simp; done) | (go_simp; rfl)); intro w52 hw; have hg : wc.grownBy w52 (some go41) := (by rw [hw]; exact HP51.2); have hp_ : Kd.R Kd.bool 4 w52 w.heap.size (fun _ => True) (.slice (some ⟨go41, 0, none⟩) x5_2.length co19) y527 := (by rw [hw, Ny527.out]; exact HP51.1); clear HP51; have n0_ := Aside0.mk (hp_); have n1_ := Aside0.mk (Kd.R_over' (v := (.slice (some ⟨go41, 0, none⟩) x5_2.length co19)) (qR HO_8.out) (Kd.R_typed HO_5.out) (by decide) hg); have n2_ := Aside0.mk (blk_grown (g := gb514) (o := .cells #[.int .i64 a0_0, .slice (some ad526) l0_1.length c0_1, .slice A0_2 l0_2.length c0_2] 30 (0, 0)) (qK BK514.out) hg (Kd.R_ne HO_5.out BK514.out (by decide))); have n3_ := Aside0.mk ((by rw [hw]; exact below_set (HB.out) GB41.out : Below w.heap.size w w52)); clear HO_5; clear HO_8; clear BK514; clear HB; have HO_5 := n0_; have HO_8 := n1_; have BK514 := n2_; have HB := n3_; clear n0_ n1_ n2_ n3_; clear hg hw hp_; have hcz53_0 : w52.cell? ⟨gb514, 0, none⟩ = some (.int .i64 a0_0) := (blk_cell BK514.out 0).trans rfl; have hcz53_1 : w52.cell? ⟨gb514, 1, none⟩ = some (.slice (some ad526) l0_1.length c0_1) := (blk_cell BK514.out 1).trans rfl; have hcz53_2 : w52.cell? ⟨gb514, 2, none⟩ = some (.slice A0_2 l0_2.length c0_2) := (blk_cell BK514.out 2).trans rfl; have hfz53_0 := blk_frozen BK514.out 0; have hfz53_1 := blk_frozen BK514.out 1; have hfz53_2 := blk_frozen BK514.out 2; have p528 : 0 ≤ ((ji36) : Int) := qD; have q528 : (ji36) < (l0_1.length : Int) := qD; obtain ⟨ad528, e528, hx528_0, hx528_1, hx528_2⟩ := at_T59 HR0_1.out (ji36) p528 q528; obtain rfl : ad526 = ad528 := (by injection e528); replace hx528_0 := (HB.out.cell (World.block_lt_of_cell? w _ hx528_0)).trans hx528_0; replace hx528_1 := (HB.out.cell (World.block_lt_of_cell? w _ hx528_1)).trans hx528_1; replace hx528_2 := (HB.out.cell (World.block_lt_of_cell? w _ hx528_2)).trans hx528_2; replace p528 := eq_true p528; replace q528 := eq_true q528; have p529 : 0 ≤ ((ji36) : Int) := qD; have q529 : (ji36) < (l0_1.length : Int) := qD; obtain ⟨ad529, e529, hx529_0, hx529_1, hx529_2⟩ := at_T59 HR0_1.out (ji36) p529 q529; obtain rfl : ad526 = ad529 := (by injection e529); replace hx529_0 := (HB.out.cell (World.block_lt_of_cell? w _ hx529_0)).trans hx529_0; replace hx529_1 := (HB.out.cell (World.block_lt_of_cell? w _ hx529_1)).trans hx529_1; replace hx529_2 := (HB.out.cell (World.block_lt_of_cell? w _ hx529_2)).trans hx529_2; replace p529 := eq_true p529; replace q529 := eq_true q529; have p49 : 0 ≤ (((rd_T59 l0_1 (ji36)).f2) : Int) := qD; have q49 : (((rd_T59 l0_1 (ji36)).f2) : Int) < ((x5_2.length : Int) : Int) := qD; obtain ⟨hx49_0, hf49_0⟩ := Kd.R_celln false HO_5.out (((rd_T59 l0_1 (ji36)).f2) : Int) p49 q49; replace p49 := eq_true p49; replace q49 := eq_true q49; obtain ⟨hy54_, hz54_⟩ := Kd.R_celln false HO_5.out (((rd_T59 l0_1 (ji36)).f2) : Int) qD qD; have HP54 := Kd.R_putg HO_5.out (((rd_T59 l0_1 (ji36)).f2) : Int) true) | ((with_reducible refine gate_store (t := 4) (p := 85) rfl ?_); refine store_event (t := 4) (p := 85) (v := ?vo_w55) (w1 := (w52.setCell ⟨go41, (((rd_T59 l0_1 (ji36)).f2) : Int).toNat, none⟩ (.bool true))) ?hg ?ho ?hn ?hr ?_; (case ho => rfl); (case hg => rfl); (case hn => rfl); (case hr => first | (go_simp; done) | (go_simp; rfl)); intro w55 hw; have hg : w52.grownBy w55 (some go41) := (by rw [hw]; exact HP54.2); have hp_ : Kd.R Kd.bool 4 w55 w.heap.size (fun _ => True) (.slice (some ⟨go41, 0, none⟩) x5_2.length co19) y530 := (by rw [hw, Ny530.out]; exact HP54.1); clear HP54; have n0_ := Aside0.mk (hp_); have n1_ := Aside0.mk (Kd.R_over' (v := (.slice (some ⟨go41, 0, none⟩) x5_2.length co19)) (qR HO_8.out) (Kd.R_typed HO_5.out) (by decide) hg); have n2_ := Aside0.mk (blk_grown (g := gb514) (o := .cells #[.int .i64 a0_0, .slice (some ad526) l0_1.length c0_1, .slice A0_2 l0_2.length c0_2] 30 (0, 0)) (qK BK514.out) hg (Kd.R_ne HO_5.out BK514.out (by decide))); have n3_ := Aside0.mk ((by rw [hw]; exact below_set (HB.out) GB41.out : Below w.heap.size w w55)); clear HO_5; clear HO_8; clear BK514; clear HB; have HO_5 := n0_; have HO_8 := n1_; have BK514 := n2_; have HB := n3_; clear n0_ n1_ n2_ n3_; clear hg hw hp_))
                      (try simp only [← hl5_2])
                      go_roundg kj25
                      case measure => have := HK1.out; have := HK2.out; have := HJ25.out; omega
                      case rel => exact ⟨(y530), (t522), (wrap64 (x9_2 - 1)), qS, H', ⟨by have := HK1.out; have := HK2.out; have := HJ25.out; omega⟩, ⟨by (try simp only [hl5_2]); (with_reducible repeat (first | apply Kd.R_alloc | apply Kd.R_drewN | apply Kd.R_drew)); exact HO_5.out⟩, ⟨by (try simp only [hl5_2]); (with_reducible repeat (first | apply Kd.R_alloc | apply Kd.R_drewN | apply Kd.R_drew)); exact HO_8.out⟩, ⟨by (try simp only [hl5_2]); exact qK BK514.out⟩, ⟨qB⟩⟩
                     ·rw [if_neg c48] at H
                      exact absurd H (by simp)
                    ·rw [if_neg c47] at H
                     exact absurd H (by simp)
                  ·rw [if_neg c40] at H
                   exact absurd H (by simp)
                 ·rw [if_neg c39] at H
                  exact absurd H (by simp)
                ·rw [if_neg c38] at H
                 exact absurd H (by simp)
               ·rw [if_neg c37] at H
                exact absurd H (by simp)
              ·replace c35 := Bool.eq_false_iff.mpr c35
               subst c35
               have H1 : (spec_l4Cone.l1 kj25 x5_2 t522 (wrap64 (x9_2 - 1)) a0_0 l0_1 l0_2) = some r := by rw [if_neg (show ¬ (false = true) by decide)] at H; exact H
               clear H
               have H := H1
               clear H1
               have H' := Aside0.mk H
               clear H
               go_wp2
               (try simp only [← hl5_2])
               go_roundg kj25
               case measure => have := HK1.out; have := HK2.out; have := HJ25.out; omega
               case rel => exact ⟨(x5_2), (t522), (wrap64 (x9_2 - 1)), qS, H', ⟨by have := HK1.out; have := HK2.out; have := HJ25.out; omega⟩, ⟨by (try simp only [hl5_2]); (with_reducible repeat (first | apply Kd.R_alloc | apply Kd.R_drewN | apply Kd.R_drew)); exact HO_5.out⟩, ⟨by (try simp only [hl5_2]); (with_reducible repeat (first | apply Kd.R_alloc | apply Kd.R_drewN | apply Kd.R_drew)); exact HO_8.out⟩, ⟨by (try simp only [hl5_2]); exact qK BK514.out⟩, ⟨qB⟩⟩
           ·replace c24 := Bool.eq_false_iff.mpr c24
            subst c24
            have H1 : (spec_l4Cone.l1 k2 x5_2 x8_2 (wrap64 (x9_2 - 1)) a0_0 l0_1 l0_2) = some r := by rw [if_neg (show ¬ (false = true) by decide)] at H; exact H
            clear H
            have H := H1
            clear H1
            have H' := Aside0.mk H
            clear H
            have p521 : 0 ≤ (x9_2 : Int) := qD
            have q521 : x9_2 < (x5_2.length : Int) := qD
            obtain ⟨ad521, e521, hx521_0⟩ := Kd.at_bool (Kd.R_reads' HO_5.out).2.2 x9_2 p521 q521
            (try rw [← Nbq23.out] at hx521_0)
            cases e521
            replace p521 := eq_true p521
            replace q521 := eq_true q521
            go_wp2
            (try simp only [← hl5_2])
            go_roundg k2
            case measure => have := HK1.out; have := HK2.out; omega
            case rel => exact ⟨(x5_2), (x8_2), (wrap64 (x9_2 - 1)), qS, H', ⟨by have := HK1.out; have := HK2.out; omega⟩, ⟨by (try simp only [hl5_2]); (with_reducible repeat (first | apply Kd.R_alloc | apply Kd.R_drewN | apply Kd.R_drew)); exact HO_5.out⟩, ⟨by (try simp only [hl5_2]); (with_reducible repeat (first | apply Kd.R_alloc | apply Kd.R_drewN | apply Kd.R_drew)); exact HO_8.out⟩, ⟨by (try simp only [hl5_2]); exact qK BK514.out⟩, ⟨qB⟩⟩
          ·rw [if_neg c22] at H
           exact absurd H (by simp)
         ·rw [if_neg c21] at H
          exact absurd H (by simp)
        ·rw [if_neg c20] at H
         have c20b0 : decide (0 ≤ x9_2) = false := decide_eq_false c20
         clear c20
         obtain rfl := Option.some.inj H
         go_wp2
         go_ret
         exact ⟨_, qE, qR HO_8.out, qB⟩
  ·rw [if_neg c5] at H
   exact absurd H (by simp)
 ·rw [if_neg c4] at H
  exact absurd H (by simp)

end Go.Proofs.Ytimkjhdopncimaa.X
