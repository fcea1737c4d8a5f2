/- Each Go function as a Lean function, with the proof that the call comes to just its answer; or a law's row out of its pure statement. Conditions: the arguments are of their kinds. Written by this session's program wip/xp/xp.sh. -/
import Derived.Test.YtckdgmbmjfhodaaDoorX0
import Derived.Test.YtckdgmbmjfhodaaDoorX13
import Derived.Test.YtckdgmbmjfhodaaDoorX14
namespace Go.Proofs.YtckdgmbmjfhodaaDoor.X
open Go.RowKit Go.Proofs.YtckdgmbmjfhodaaDoorW.PrintWords Go.Proofs.YtckdgmbmjfhodaaDoorW.PrintLast Go.Proofs.YtckdgmbmjfhodaaDoorW.PrintMore
attribute [local go_sem] max2_int min2_int max_two min_two max_three min_three max_four min_four   -- for this text's walks alone
set_option linter.unusedVariables false
set_option linter.unusedSimpArgs false

/-! ### impl_termText: function 13 -/
def impl_termText.l0 : Nat → List ByteArray → List (S34) → Int → Int → Option (ByteArray)
  | 0, _, _, _, _ => none
  | k + 1, x3, x8, x9, x10 => if x10 < x9 then (if 0 ≤ x10 then (if x10 < (x8.length : Int) then (if ((rd_T34 x8 x10).f0) = 1 then ((impl_NumText.f ((rd_T34 x8 x10).f1)).bind fun t222 => (if x3.length < 8796093022208 then (impl_termText.l0 k (x3 ++ [t222]) x8 x9 (wrap64 (x10 + 1))) else (none))) else (if ((rd_T34 x8 x10).f0) = 2 then ((impl_nameOf.f (wrap64 ((rd_T34 x8 x10).f1))).bind fun t226 => (if x3.length < 8796093022208 then (impl_termText.l0 k (x3 ++ [t226]) x8 x9 (wrap64 (x10 + 1))) else (none))) else (if ((rd_T34 x8 x10).f0) = 20 then ((some (([(⟨#[110, 111]⟩ : ByteArray), (⟨#[121, 101, 115]⟩ : ByteArray)] : List ByteArray) : List ByteArray)).bind fun y230 => (if 0 ≤ ((rd_T34 x8 x10).f1) then (if ((rd_T34 x8 x10).f1) < (y230.length : Int) then (if x3.length < 8796093022208 then (impl_termText.l0 k (x3 ++ [rdOf ByteArray.empty y230 ((rd_T34 x8 x10).f1)]) x8 x9 (wrap64 (x10 + 1))) else (none)) else (none)) else (none))) else (if ((rd_T34 x8 x10).f0) = 13 then (if 0 ≤ (wrap64 ((x3.length : Int) - 1)) then (if (wrap64 ((x3.length : Int) - 1)) < (x3.length : Int) then (if 1 + (rdOf ByteArray.empty x3 (wrap64 ((x3.length : Int) - 1))).size ≤ 9223372036854775807 then (impl_termText.l0 k (x3.set ((wrap64 ((x3.length : Int) - 1)) : Int).toNat ((⟨#[126]⟩ : ByteArray) ++ (rdOf ByteArray.empty x3 (wrap64 ((x3.length : Int) - 1))))) x8 x9 (wrap64 (x10 + 1))) else (none)) else (none)) else (none)) else (if ((rd_T34 x8 x10).f0) = 19 then (if 0 ≤ (wrap64 ((x3.length : Int) - 1)) then (if (wrap64 ((x3.length : Int) - 1)) < (x3.length : Int) then (if 1 + (rdOf ByteArray.empty x3 (wrap64 ((x3.length : Int) - 1))).size ≤ 9223372036854775807 then (impl_termText.l0 k (x3.set ((wrap64 ((x3.length : Int) - 1)) : Int).toNat ((⟨#[33]⟩ : ByteArray) ++ (rdOf ByteArray.empty x3 (wrap64 ((x3.length : Int) - 1))))) x8 x9 (wrap64 (x10 + 1))) else (none)) else (none)) else (none)) else (if 0 ≤ (wrap64 ((wrap64 ((x3.length : Int) - 1)) - 1)) then (if (wrap64 ((wrap64 ((x3.length : Int) - 1)) - 1)) ≤ (x3.length : Int) then ((some (x3.take ((wrap64 ((wrap64 ((x3.length : Int) - 1)) - 1)) : Int).toNat : List ByteArray)).bind fun y241 => (if (wrap64 ((wrap64 ((x3.length : Int) - 1)) - 1)) < (x3.length : Int) then (if 1 + (rdOf ByteArray.empty x3 (wrap64 ((wrap64 ((x3.length : Int) - 1)) - 1))).size ≤ 9223372036854775807 then ((impl_signOf.f ((rd_T34 x8 x10).f0)).bind fun t245 => (if 1 + (rdOf ByteArray.empty x3 (wrap64 ((wrap64 ((x3.length : Int) - 1)) - 1))).size + t245.size ≤ 9223372036854775807 then (if 0 ≤ (wrap64 ((x3.length : Int) - 1)) then (if (wrap64 ((x3.length : Int) - 1)) < (x3.length : Int) then (if 1 + (rdOf ByteArray.empty x3 (wrap64 ((wrap64 ((x3.length : Int) - 1)) - 1))).size + t245.size + (rdOf ByteArray.empty x3 (wrap64 ((x3.length : Int) - 1))).size ≤ 9223372036854775807 then (if 1 + (rdOf ByteArray.empty x3 (wrap64 ((wrap64 ((x3.length : Int) - 1)) - 1))).size + t245.size + (rdOf ByteArray.empty x3 (wrap64 ((x3.length : Int) - 1))).size + 1 ≤ 9223372036854775807 then (if y241.length < 8796093022208 then (impl_termText.l0 k (y241 ++ [((((⟨#[40]⟩ : ByteArray) ++ (rdOf ByteArray.empty x3 (wrap64 ((wrap64 ((x3.length : Int) - 1)) - 1)))) ++ t245) ++ (rdOf ByteArray.empty x3 (wrap64 ((x3.length : Int) - 1)))) ++ (⟨#[41]⟩ : ByteArray)]) x8 x9 (wrap64 (x10 + 1))) else (none)) else (none)) else (none)) else (none)) else (none)) else (none))) else (none)) else (none))) else (none)) else (none))))))) else (none)) else (none)) else (if 0 < (x3.length : Int) then (some (rdOf ByteArray.empty x3 0)) else (none))
def impl_termText.f (k : Nat) (l0 : List (S34)) : Option (ByteArray) := impl_termText.l0 k (([] : List ByteArray)) l0 (l0.length : Int) 0
theorem impl_termText.mono_l : ∀ k, (∀ y0 y1 y2 y3, LeO (impl_termText.l0 k y0 y1 y2 y3) (impl_termText.l0 (k + 1) y0 y1 y2 y3))
  | 0 => fun _ _ _ _ r h => by simp [impl_termText.l0] at h
  | k + 1 => by
    have ih0 := impl_termText.mono_l k
    · intro y0 y1 y2 y3
      unfold impl_termText.l0
      repeat' first
      | (with_reducible exact ih0 _ _ _ _)
      | (with_reducible exact LeO.refl _)
      | (with_reducible exact LeO.none _)
      | (with_reducible refine LeO.ite ?_ ?_)
      | (with_reducible refine LeO.bind ?_ (fun _ => ?_))
      | exact ih0 _ _ _ _
      | exact LeO.none _
      | refine LeO.ite ?_ ?_
      | refine LeO.bind ?_ (fun _ => ?_)
theorem impl_termText.mono : ∀ a0 k, LeO (impl_termText.f k a0) (impl_termText.f (k + 1) a0) := by
  intro a0 k
  have ih0 := impl_termText.mono_l k
  unfold impl_termText.f
  repeat' first
      | (with_reducible exact ih0 _ _ _ _)
      | (with_reducible exact LeO.refl _)
      | (with_reducible exact LeO.none _)
      | (with_reducible refine LeO.ite ?_ ?_)
      | (with_reducible refine LeO.bind ?_ (fun _ => ?_))
      | exact ih0 _ _ _ _
      | exact LeO.none _
      | refine LeO.ite ?_ ?_
      | refine LeO.bind ?_ (fun _ => ?_)
def impl_termText.T7 : Bool × List (List Nat × List Nat) := (true, [([], []), ([], []), ([1], [1]), ([0, 2], [0, 2]), ([], []), ([], []), ([5], [5]), ([4, 6], [4, 6]), ([7], [7]), ([8], [8]), ([], []), ([10], [10]), ([11], [11]), ([9, 12], [9, 12]), ([], []), ([], []), ([14, 15], [14, 15]), ([16], [16]), ([13, 17], [13, 17]), ([18], [18]), ([19], [19]), ([3, 20, 12], [3, 20]), ([21, 21, 0, 1, 2, 3, 4, 5, 6, 7, 8, 9, 10, 11, 12, 13, 14, 15, 16, 17, 18, 19, 20, 21], [0, 4, 14, 21])])
def impl_termText.B7 : List Nat := [0, 0, 2, 7, 0, 0, 32, 112, 240, 496, 0, 1024, 3072, 8176, 0, 0, 49152, 114688, 262128, 524272, 1048560, 2097151, 4194303]
theorem impl_termText.tab7 : rtab .any (opsOf Tryd.f13 7) = impl_termText.T7 := by kernel_rfl
theorem impl_termText.bits7 : waitsOk impl_termText.T7.2 impl_termText.B7 = true := by kernel_rfl
set_option maxHeartbeats 8000000 in
set_option maxRecDepth 100000 in
theorem impl_termText.calls (k : Nat) (A0 : Option Addr) (c0 : Nat) (l0 : List (S34)) (r : ByteArray) (w : World) (hr0 : Kd.C k34 w A0 l0.length l0) (hc0 : l0.length ≤ c0) (h : impl_termText.f k l0 = some r) (htab : TabHere w := by exact TabAll.at_ HT.out (by repeat (first | (with_reducible first | exact HB.out | apply below_alloc | apply pw_below_drewN | apply below_drew1 | refine below_set ?_ (Aside0.out ‹_›)) | exact HB.out))) :
    Calls Tryd.prog 13 #[.slice A0 l0.length c0] w fun e w' => e = .returned (.string r) ∧ Below w.heap.size w w' := by
  have HT := Aside0.mk (TabHere.all htab)
  clear htab
  have hu34 := Tryd.underlying34
  have HR0 := Aside0.mk hr0
  have HC0 := Aside0.mk hc0
  clear hr0 hc0
  have HB := Aside0.mk (Below.refl w.heap.size w)
  have H : (impl_termText.l0 k (([] : List ByteArray)) l0 (l0.length : Int) 0) = some r := h
  clear h
  obtain ⟨y216, hy216⟩ : ∃ y_ : List ByteArray, y_ = (([] : List ByteArray)) := ⟨_, rfl⟩
  replace H : (impl_termText.l0 k y216 l0 (l0.length : Int) 0) = some r := qY hy216 H
  have Ny216 := Aside0.mk hy216
  clear hy216
  have H' := Aside0.mk H
  clear H
  go_enter Tryd.func13, Tryd.ntmps13
  go_wp2_with (first | ((with_reducible refine gate_dst (N := 7) rfl ?_); refine Kd.R_lit Kd.string _ 9 ?hg (N := 7) ?hd (xs := ([] : List ByteArray)) (inner := []) (ok := fun _ => True) (okp := fun _ => True) ?hr ?hp (fun _ hk => hk) trivial (Below.refl _ _) (Nat.le_refl _) (by simp) ?_; (case hd => rfl); (case hg => rfl); (case hr => first | (go_simp; done) | (go_simp; rfl)); (case hp => exact (Reps.none _ _)); intro v217 w2 ho3 hb hg_ hnew_; clear hg_ hnew_; (first | rw [← Ny216.out] at ho3 | (simp only [Int.reduceToNat] at ho3; rw [← Ny216.out] at ho3)); have n0_ := Aside0.mk (Kd.R_lower ho3 (below_size (qB))); have n1_ := Aside0.mk (below_step (qB) hb); clear HB; have HO218 := n0_; have HB := n1_; clear n0_ n1_; clear hb ho3))
  go_loopg [3, 10] k (fun kq v3 v10 w' => ∃ (x3_1 : List ByteArray) (x10_1 : Int), v10 = .int .i64 x10_1 ∧ Aside0 (impl_termText.l0 kq x3_1 l0 (l0.length : Int) x10_1 = some r) ∧ Aside0 (kq ≤ k) ∧ Aside0 (Kd.R Kd.string 9 w' w.heap.size (fun _ => True) v3 x3_1) ∧ Aside0 (Below w.heap.size w w'))
  case atStart => exact ⟨(y216), (0), qS, H', ⟨Nat.le_refl _⟩, ⟨qR HO218.out⟩, ⟨qB⟩⟩
  case round =>
    clear H'
    try clear c1
    try clear p2
    obtain ⟨x3_1, x10_1, rfl, HA, HK1, HO_3, HB⟩ := hrel
    cases gk with
    | zero => exact absurd HA.out (by simp [impl_termText.l0])
    | succ k1 =>
      have H := HA.out
      clear HA
      simp only [impl_termText.l0] at H
      by_cases c4 : x10_1 < (l0.length : Int)
      · rw [if_pos c4] at H
        have c4b0 : decide (x10_1 < (l0.length : Int)) = true := decide_eq_true c4
        clear c4
        by_cases c5 : 0 ≤ x10_1
        · rw [if_pos c5] at H
          have c5b0 : decide (0 ≤ x10_1) = true := decide_eq_true c5
          clear c5
          by_cases c6 : x10_1 < (l0.length : Int)
          · rw [if_pos c6] at H
            have c6b0 : decide (x10_1 < (l0.length : Int)) = true := decide_eq_true c6
            clear c6
            by_cases c7 : ((rd_T34 l0 x10_1).f0) = 1
            · rw [if_pos c7] at H
              have c7b0 : (((rd_T34 l0 x10_1).f0) == 1) = true := beq_iff_eq.mpr c7
              have c7b1 : (((rd_T34 l0 x10_1).f0) != 1) = false := bne_eq_false_iff_eq.mpr c7
              clear c7
              replace H := Option.bind_eq_some_iff.mp H
              obtain ⟨t222, A80, H⟩ := H
              replace H : (if x3_1.length < 8796093022208 then (impl_termText.l0 k1 (x3_1 ++ [t222]) l0 (l0.length : Int) (wrap64 (x10_1 + 1))) else (none)) = some r := H
              have A8 := Aside0.mk A80
              clear A80
              by_cases c9 : x3_1.length < 8796093022208
              · rw [if_pos c9] at H
                have LMc9 := Aside0.mk c9
                clear c9
                obtain ⟨y223, hy223⟩ : ∃ y_ : List ByteArray, y_ = (x3_1 ++ [t222]) := ⟨_, rfl⟩
                replace H : (impl_termText.l0 k1 y223 l0 (l0.length : Int) (wrap64 (x10_1 + 1))) = some r := qY hy223 H
                have Ny223 := Aside0.mk hy223
                clear hy223
                have H' := Aside0.mk H
                clear H
                have p220 : 0 ≤ (x10_1 : Int) := qD
                have q220 : x10_1 < (l0.length : Int) := qD
                obtain ⟨ad220, e220, hx220_0, hx220_1⟩ := at_T34 HR0.out x10_1 p220 q220
                cases e220
                replace hx220_0 := (HB.out.cell (World.block_lt_of_cell? w _ hx220_0)).trans hx220_0
                replace hx220_1 := (HB.out.cell (World.block_lt_of_cell? w _ hx220_1)).trans hx220_1
                replace p220 := eq_true p220
                replace q220 := eq_true q220
                go_wp2_with (first | ((with_reducible refine gate_dst (N := 5) rfl ?_); refine box_event ?hg (N := 5) ?hd (cs := #[.int .i64 0, .int .u64 0]) (t := 34) ?hr ?_; (case hd => rfl); (case hg => rfl); (case hr => first | (go_simp; done) | (go_simp; rfl)); intro gb221 hg w10 hbox hb; have n0_ := Aside0.mk (Kd.R_below (qR HO_3.out) hb); have n1_ := Aside0.mk (below_step (qB) hb); have n2_ := Aside0.mk (hbox); have n3_ := Aside0.mk ((by rw [hg]; exact (below_size (qB)) : w.heap.size ≤ gb221)); have n4_ := Aside0.mk ((by rw [hg]; exact (below_size (qB)) : w.heap.size ≤ gb221)); clear HO_3; clear HB; have HO_3 := n0_; have HB := n1_; have BK221 := n2_; have GW221 := n3_; have GE221 := n4_; clear n0_ n1_ n2_ n3_ n4_; clear hb hbox hg; have hcz11_0 : w10.cell? ⟨gb221, 0, none⟩ = some (.int .i64 0) := (blk_cell BK221.out 0).trans rfl; have hcz11_1 : w10.cell? ⟨gb221, 1, none⟩ = some (.int .u64 0) := (blk_cell BK221.out 1).trans rfl; have hfz11_0 := blk_frozen BK221.out 0; have hfz11_1 := blk_frozen BK221.out 1; obtain ⟨Ao12, co12, eo12⟩ := Kd.R_slice HO_3.out; subst eo12) | ((with_reducible refine gate_callee (f := 27) rfl ?_); refine goesL_ (some 46) rfl rfl Tryd.func27 (by kernel_rfl) rfl #[.int .u64 ((rd_T34 l0 x10_1).f1)] rfl qG ?_; (with_reducible refine (impl_NumText.calls ((rd_T34 l0 x10_1).f1) t222 _ A8.out).mono ?_); rintro e w13 ⟨rfl, hb⟩; refine ⟨_, rfl, ?_⟩; have n0_ := Aside0.mk (Kd.R_below (by (with_reducible repeat (first | apply Kd.R_alloc | apply Kd.R_drewN | apply Kd.R_drew)); exact (Kd.R_mono (Kd.R_far (p := ⟨gb221, 1, none⟩) (Kd.R_far (p := ⟨gb221, 0, none⟩) (Kd.R_types HO_3.out BK221.out (by decide)) (fun _ hk => hk.2) (.int .i64 ((rd_T34 l0 x10_1).f0))) (fun _ hk => hk.2) (.int .u64 ((rd_T34 l0 x10_1).f1))) (fun _ h_ => h_.1))) hb); have n1_ := Aside0.mk (blk_below (g := gb221) (o := .cells #[.int .i64 ((rd_T34 l0 x10_1).f0), .int .u64 ((rd_T34 l0 x10_1).f1)] 34 (0, 0)) (by (with_reducible repeat (first | refine blk_drewN ?_ _ | refine blk_drew ?_ | refine blk_alloc ?_ _)); refine blk_put (cs := #[.int .i64 ((rd_T34 l0 x10_1).f0), .int .u64 0]) ?_ 1 _ rfl; (with_reducible repeat (first | refine blk_drewN ?_ _ | refine blk_drew ?_ | refine blk_alloc ?_ _)); refine blk_put (cs := #[.int .i64 0, .int .u64 0]) ?_ 0 _ rfl; (with_reducible repeat (first | refine blk_drewN ?_ _ | refine blk_drew ?_ | refine blk_alloc ?_ _)); exact BK221.out) hb); have n2_ := Aside0.mk (below_step (qB) hb); clear HO_3; clear BK221; clear HB; have HO_3 := n0_; have BK221 := n1_; have HB := n2_; clear n0_ n1_ n2_; (try clear hb); (try clear hb2); (try clear hk); (try clear hi)) | ((with_reducible refine gate_builtin (b := .append) (xs := #[.tmp 43, .tmp 47]) rfl ?_); at_builtin; refine Kd.R_append Kd.string (w0 := w) w.heap.size rfl (.tmp 43) (.tmp 47) 49 9 (.string ⟨#[]⟩) 16 rfl Tryd.underlying49 info9 rfl (by decide) (by omega) (.slice Ao12 x3_1.length co12) x3_1 t222 [.string t222] (fun _ => True) (fun _ => False) rfl rfl ?aP (fun _ hk => hk.elim) ?aF ?aO ?aB ?aS ?aL ?_; (case aP => exact rfl); (case aB => exact (qB)); (case aF => exact (fun _ _ => trivial)); (case aO => exact (qR HO_3.out)); (case aS => exact (below_size (qB))); (case aL => have := LMc9.out; omega); intro v224 w14 ho hb hg hat; rw [← Ny223.out] at ho; have n0_ := Aside0.mk (blk_grown (g := gb221) (o := .cells #[.int .i64 ((rd_T34 l0 x10_1).f0), .int .u64 ((rd_T34 l0 x10_1).f1)] 34 (0, 0)) (qK BK221.out) hg (Kd.R_ne HO_3.out BK221.out (by decide))); have n1_ := Aside0.mk (hb); have n2_ := Aside0.mk (ho); clear BK221; clear HB; clear HO_3; have BK221 := n0_; have HB := n1_; have HO225 := n2_; clear n0_ n1_ n2_; clear ho hb hg hat))
                go_roundg k1
                case measure => have := HK1.out; omega
                case rel => exact ⟨(y223), (wrap64 (x10_1 + 1)), qS, H', ⟨by have := HK1.out; omega⟩, ⟨qR HO225.out⟩, ⟨qB⟩⟩
              · rw [if_neg c9] at H
                exact absurd H (by simp)
            · rw [if_neg c7] at H
              have c7b0 : (((rd_T34 l0 x10_1).f0) == 1) = false := beq_eq_false_iff_ne.mpr c7
              have c7b1 : (((rd_T34 l0 x10_1).f0) != 1) = true := bne_iff_ne.mpr c7
              by_cases c15 : ((rd_T34 l0 x10_1).f0) = 2
              · rw [if_pos c15] at H
                have c15b0 : (((rd_T34 l0 x10_1).f0) == 2) = true := beq_iff_eq.mpr c15
                have c15b1 : (((rd_T34 l0 x10_1).f0) != 2) = false := bne_eq_false_iff_eq.mpr c15
                clear c15
                replace H := Option.bind_eq_some_iff.mp H
                obtain ⟨t226, A160, H⟩ := H
                replace H : (if x3_1.length < 8796093022208 then (impl_termText.l0 k1 (x3_1 ++ [t226]) l0 (l0.length : Int) (wrap64 (x10_1 + 1))) else (none)) = some r := H
                have A16 := Aside0.mk A160
                clear A160
                by_cases c17 : x3_1.length < 8796093022208
                · rw [if_pos c17] at H
                  have LMc17 := Aside0.mk c17
                  clear c17
                  obtain ⟨y227, hy227⟩ : ∃ y_ : List ByteArray, y_ = (x3_1 ++ [t226]) := ⟨_, rfl⟩
                  replace H : (impl_termText.l0 k1 y227 l0 (l0.length : Int) (wrap64 (x10_1 + 1))) = some r := qY hy227 H
                  have Ny227 := Aside0.mk hy227
                  clear hy227
                  have H' := Aside0.mk H
                  clear H
                  have p220 : 0 ≤ (x10_1 : Int) := qD
                  have q220 : x10_1 < (l0.length : Int) := qD
                  obtain ⟨ad220, e220, hx220_0, hx220_1⟩ := at_T34 HR0.out x10_1 p220 q220
                  cases e220
                  replace hx220_0 := (HB.out.cell (World.block_lt_of_cell? w _ hx220_0)).trans hx220_0
                  replace hx220_1 := (HB.out.cell (World.block_lt_of_cell? w _ hx220_1)).trans hx220_1
                  replace p220 := eq_true p220
                  replace q220 := eq_true q220
                  go_wp2_with (first | ((with_reducible refine gate_dst (N := 5) rfl ?_); refine box_event ?hg (N := 5) ?hd (cs := #[.int .i64 0, .int .u64 0]) (t := 34) ?hr ?_; (case hd => rfl); (case hg => rfl); (case hr => first | (go_simp; done) | (go_simp; rfl)); intro gb221 hg w18 hbox hb; have n0_ := Aside0.mk (Kd.R_below (qR HO_3.out) hb); have n1_ := Aside0.mk (below_step (qB) hb); have n2_ := Aside0.mk (hbox); have n3_ := Aside0.mk ((by rw [hg]; exact (below_size (qB)) : w.heap.size ≤ gb221)); have n4_ := Aside0.mk ((by rw [hg]; exact (below_size (qB)) : w.heap.size ≤ gb221)); clear HO_3; clear HB; have HO_3 := n0_; have HB := n1_; have BK221 := n2_; have GW221 := n3_; have GE221 := n4_; clear n0_ n1_ n2_ n3_ n4_; clear hb hbox hg; have hcz19_0 : w18.cell? ⟨gb221, 0, none⟩ = some (.int .i64 0) := (blk_cell BK221.out 0).trans rfl; have hcz19_1 : w18.cell? ⟨gb221, 1, none⟩ = some (.int .u64 0) := (blk_cell BK221.out 1).trans rfl; have hfz19_0 := blk_frozen BK221.out 0; have hfz19_1 := blk_frozen BK221.out 1; obtain ⟨Ao20, co20, eo20⟩ := Kd.R_slice HO_3.out; subst eo20) | ((with_reducible refine gate_callee (f := 28) rfl ?_); refine goesL_ (some 55) rfl rfl Tryd.func28 (by kernel_rfl) rfl #[.int .i64 (wrap64 ((rd_T34 l0 x10_1).f1))] rfl qG ?_; (with_reducible refine (impl_nameOf.calls (wrap64 ((rd_T34 l0 x10_1).f1)) t226 _ A16.out).mono ?_); rintro e w' ⟨rfl, ⟨nd, rfl⟩⟩; refine ⟨_, rfl, ?_⟩) | ((with_reducible refine gate_builtin (b := .append) (xs := #[.tmp 51, .tmp 56]) rfl ?_); at_builtin; refine Kd.R_append Kd.string (w0 := w) w.heap.size rfl (.tmp 51) (.tmp 56) 49 9 (.string ⟨#[]⟩) 16 rfl Tryd.underlying49 info9 rfl (by decide) (by omega) (.slice Ao20 x3_1.length co20) x3_1 t226 [.string t226] (fun _ => True) (fun _ => False) rfl (by first | (go_simp; done) | (go_simp; rfl)) ?aP (fun _ hk => hk.elim) ?aF ?aO ?aB ?aS ?aL ?_; (case aP => exact rfl); (case aB => exact (qB)); (case aF => exact (fun _ _ => trivial)); (case aO => exact (by (with_reducible repeat (first | apply Kd.R_alloc | apply Kd.R_drewN | apply Kd.R_drew)); exact Kd.R_mono (Kd.R_far (p := ⟨gb221, 1, none⟩) (Kd.R_far (p := ⟨gb221, 0, none⟩) (Kd.R_types HO_3.out BK221.out (by decide)) (fun _ hk => hk.2) (.int .i64 ((rd_T34 l0 x10_1).f0))) (fun _ hk => hk.2) (.int .u64 ((rd_T34 l0 x10_1).f1))) (fun _ hk => trivial))); (case aS => exact (below_size (qB))); (case aL => have := LMc17.out; omega); intro v228 w21 ho hb hg hat; rw [← Ny227.out] at ho; have n0_ := Aside0.mk (blk_grown (g := gb221) (o := .cells #[.int .i64 ((rd_T34 l0 x10_1).f0), .int .u64 ((rd_T34 l0 x10_1).f1)] 34 (0, 0)) (by (with_reducible repeat (first | refine blk_drewN ?_ _ | refine blk_drew ?_ | refine blk_alloc ?_ _)); refine blk_put (cs := #[.int .i64 ((rd_T34 l0 x10_1).f0), .int .u64 0]) ?_ 1 _ rfl; (with_reducible repeat (first | refine blk_drewN ?_ _ | refine blk_drew ?_ | refine blk_alloc ?_ _)); refine blk_put (cs := #[.int .i64 0, .int .u64 0]) ?_ 0 _ rfl; (with_reducible repeat (first | refine blk_drewN ?_ _ | refine blk_drew ?_ | refine blk_alloc ?_ _)); exact BK221.out) hg (Kd.R_ne HO_3.out BK221.out (by decide))); have n1_ := Aside0.mk (hb); have n2_ := Aside0.mk (ho); clear BK221; clear HB; clear HO_3; have BK221 := n0_; have HB := n1_; have HO229 := n2_; clear n0_ n1_ n2_; clear ho hb hg hat))
                  go_roundg k1
                  case measure => have := HK1.out; omega
                  case rel => exact ⟨(y227), (wrap64 (x10_1 + 1)), qS, H', ⟨by have := HK1.out; omega⟩, ⟨qR HO229.out⟩, ⟨qB⟩⟩
                · rw [if_neg c17] at H
                  exact absurd H (by simp)
              · rw [if_neg c15] at H
                have c15b0 : (((rd_T34 l0 x10_1).f0) == 2) = false := beq_eq_false_iff_ne.mpr c15
                have c15b1 : (((rd_T34 l0 x10_1).f0) != 2) = true := bne_iff_ne.mpr c15
                by_cases c22 : ((rd_T34 l0 x10_1).f0) = 20
                · rw [if_pos c22] at H
                  have c22b0 : (((rd_T34 l0 x10_1).f0) == 20) = true := beq_iff_eq.mpr c22
                  have c22b1 : (((rd_T34 l0 x10_1).f0) != 20) = false := bne_eq_false_iff_eq.mpr c22
                  clear c22
                  obtain ⟨y230, hy230⟩ : ∃ y_ : List ByteArray, y_ = (([(⟨#[110, 111]⟩ : ByteArray), (⟨#[121, 101, 115]⟩ : ByteArray)] : List ByteArray)) := ⟨_, rfl⟩
                  replace H : (if 0 ≤ ((rd_T34 l0 x10_1).f1) then (if ((rd_T34 l0 x10_1).f1) < (y230.length : Int) then (if x3_1.length < 8796093022208 then (impl_termText.l0 k1 (x3_1 ++ [rdOf ByteArray.empty y230 ((rd_T34 l0 x10_1).f1)]) l0 (l0.length : Int) (wrap64 (x10_1 + 1))) else (none)) else (none)) else (none)) = some r := qY hy230 H
                  have Ny230 := Aside0.mk hy230
                  clear hy230
                  by_cases c23 : 0 ≤ ((rd_T34 l0 x10_1).f1)
                  · rw [if_pos c23] at H
                    have c23b0 : decide (0 ≤ ((rd_T34 l0 x10_1).f1)) = true := decide_eq_true c23
                    clear c23
                    by_cases c24 : ((rd_T34 l0 x10_1).f1) < (y230.length : Int)
                    · rw [if_pos c24] at H
                      have c24b0 : decide (((rd_T34 l0 x10_1).f1) < (y230.length : Int)) = true := decide_eq_true c24
                      clear c24
                      by_cases c25 : x3_1.length < 8796093022208
                      · rw [if_pos c25] at H
                        have LMc25 := Aside0.mk c25
                        clear c25
                        obtain ⟨y234, hy234⟩ : ∃ y_ : List ByteArray, y_ = (x3_1 ++ [rdOf ByteArray.empty y230 ((rd_T34 l0 x10_1).f1)]) := ⟨_, rfl⟩
                        replace H : (impl_termText.l0 k1 y234 l0 (l0.length : Int) (wrap64 (x10_1 + 1))) = some r := qY hy234 H
                        have Ny234 := Aside0.mk hy234
                        clear hy234
                        have H' := Aside0.mk H
                        clear H
                        have p220 : 0 ≤ (x10_1 : Int) := qD
                        have q220 : x10_1 < (l0.length : Int) := qD
                        obtain ⟨ad220, e220, hx220_0, hx220_1⟩ := at_T34 HR0.out x10_1 p220 q220
                        cases e220
                        replace hx220_0 := (HB.out.cell (World.block_lt_of_cell? w _ hx220_0)).trans hx220_0
                        replace hx220_1 := (HB.out.cell (World.block_lt_of_cell? w _ hx220_1)).trans hx220_1
                        replace p220 := eq_true p220
                        replace q220 := eq_true q220
                        go_wp2_with (first | ((with_reducible refine gate_dst (N := 5) rfl ?_); refine box_event ?hg (N := 5) ?hd (cs := #[.int .i64 0, .int .u64 0]) (t := 34) ?hr ?_; (case hd => rfl); (case hg => rfl); (case hr => first | (go_simp; done) | (go_simp; rfl)); intro gb221 hg w26 hbox hb; have n0_ := Aside0.mk (Kd.R_below (qR HO_3.out) hb); have n1_ := Aside0.mk (below_step (qB) hb); have n2_ := Aside0.mk (hbox); have n3_ := Aside0.mk ((by rw [hg]; exact (below_size (qB)) : w.heap.size ≤ gb221)); have n4_ := Aside0.mk ((by rw [hg]; exact (below_size (qB)) : w.heap.size ≤ gb221)); clear HO_3; clear HB; have HO_3 := n0_; have HB := n1_; have BK221 := n2_; have GW221 := n3_; have GE221 := n4_; clear n0_ n1_ n2_ n3_ n4_; clear hb hbox hg; have hcz27_0 : w26.cell? ⟨gb221, 0, none⟩ = some (.int .i64 0) := (blk_cell BK221.out 0).trans rfl; have hcz27_1 : w26.cell? ⟨gb221, 1, none⟩ = some (.int .u64 0) := (blk_cell BK221.out 1).trans rfl; have hfz27_0 := blk_frozen BK221.out 0; have hfz27_1 := blk_frozen BK221.out 1; obtain ⟨Ao28, co28, eo28⟩ := Kd.R_slice HO_3.out; subst eo28) | ((with_reducible refine gate_dst (N := 61) rfl ?_); refine Kd.R_lit Kd.string _ 9 ?hg (N := 61) ?hd (xs := ([(⟨#[110, 111]⟩ : ByteArray), (⟨#[121, 101, 115]⟩ : ByteArray)] : List ByteArray)) (inner := [.string (⟨#[110, 111]⟩ : ByteArray), .string (⟨#[121, 101, 115]⟩ : ByteArray)]) (ok := fun _ => True) (okp := fun _ => True) ?hr ?hp (fun _ hk => hk) trivial (Below.refl _ _) (Nat.le_refl _) (by simp) ?_; (case hd => rfl); (case hg => rfl); (case hr => first | (go_simp; done) | (go_simp; rfl)); (case hp => exact (Reps.one (show Kd.M Kd.string _ _ _ (⟨#[110, 111]⟩ : ByteArray) [.string (⟨#[110, 111]⟩ : ByteArray)] from rfl) (Reps.one (show Kd.M Kd.string _ _ _ (⟨#[121, 101, 115]⟩ : ByteArray) [.string (⟨#[121, 101, 115]⟩ : ByteArray)] from rfl) (Reps.none _ _)))); intro v231 w29 ho30 hb hg_ hnew_; clear hg_ hnew_; (first | rw [← Ny230.out] at ho30 | (simp only [Int.reduceToNat] at ho30; rw [← Ny230.out] at ho30)); have n0_ := Aside0.mk (Kd.R_elder' (by (with_reducible repeat (first | apply Kd.R_alloc | apply Kd.R_drewN | apply Kd.R_drew)); exact (Kd.R_mono (Kd.R_far (p := ⟨gb221, 1, none⟩) (Kd.R_far (p := ⟨gb221, 0, none⟩) (Kd.R_types HO_3.out BK221.out (by decide)) (fun _ hk => hk.2) (.int .i64 ((rd_T34 l0 x10_1).f0))) (fun _ hk => hk.2) (.int .u64 ((rd_T34 l0 x10_1).f1))) (fun _ h_ => h_.1))) (Kd.R_base ho30) hb); have n1_ := Aside0.mk (Kd.R_lower (Kd.R_new' ho30 (Kd.R_lt (by (with_reducible repeat (first | apply Kd.R_alloc | apply Kd.R_drewN | apply Kd.R_drew)); exact (Kd.R_mono (Kd.R_far (p := ⟨gb221, 1, none⟩) (Kd.R_far (p := ⟨gb221, 0, none⟩) (Kd.R_types HO_3.out BK221.out (by decide)) (fun _ hk => hk.2) (.int .i64 ((rd_T34 l0 x10_1).f0))) (fun _ hk => hk.2) (.int .u64 ((rd_T34 l0 x10_1).f1))) (fun _ h_ => h_.1))))) (below_size (qB))); have n2_ := Aside0.mk (blk_below (g := gb221) (o := .cells #[.int .i64 ((rd_T34 l0 x10_1).f0), .int .u64 ((rd_T34 l0 x10_1).f1)] 34 (0, 0)) (by (with_reducible repeat (first | refine blk_drewN ?_ _ | refine blk_drew ?_ | refine blk_alloc ?_ _)); refine blk_put (cs := #[.int .i64 ((rd_T34 l0 x10_1).f0), .int .u64 0]) ?_ 1 _ rfl; (with_reducible repeat (first | refine blk_drewN ?_ _ | refine blk_drew ?_ | refine blk_alloc ?_ _)); refine blk_put (cs := #[.int .i64 0, .int .u64 0]) ?_ 0 _ rfl; (with_reducible repeat (first | refine blk_drewN ?_ _ | refine blk_drew ?_ | refine blk_alloc ?_ _)); exact BK221.out) hb); have n3_ := Aside0.mk (below_step (qB) hb); clear HO_3; clear BK221; clear HB; have HO_3 := n0_; have HO232 := n1_; have BK221 := n2_; have HB := n3_; clear n0_ n1_ n2_ n3_; clear hb ho30; have hcz31_0 : w29.cell? ⟨gb221, 0, none⟩ = some (.int .i64 ((rd_T34 l0 x10_1).f0)) := (blk_cell BK221.out 0).trans rfl; have hcz31_1 : w29.cell? ⟨gb221, 1, none⟩ = some (.int .u64 ((rd_T34 l0 x10_1).f1)) := (blk_cell BK221.out 1).trans rfl; have hfz31_0 := blk_frozen BK221.out 0; have hfz31_1 := blk_frozen BK221.out 1; obtain ⟨Ao32, co32, eo32⟩ := Kd.R_slice HO232.out; subst eo32; have p233 : 0 ≤ (((rd_T34 l0 x10_1).f1) : Int) := qD; have q233 : ((rd_T34 l0 x10_1).f1) < (y230.length : Int) := qD; obtain ⟨ad233, e233, hx233_0⟩ := Kd.at_string (Kd.R_reads' HO232.out).2.2 ((rd_T34 l0 x10_1).f1) p233 q233; cases e233; replace p233 := eq_true p233; replace q233 := eq_true q233) | ((with_reducible refine gate_builtin (b := .append) (xs := #[.tmp 60, .tmp 66]) rfl ?_); at_builtin; refine Kd.R_append Kd.string (w0 := w) w.heap.size rfl (.tmp 60) (.tmp 66) 49 9 (.string ⟨#[]⟩) 16 rfl Tryd.underlying49 info9 rfl (by decide) (by omega) (.slice Ao28 x3_1.length co28) x3_1 (rdOf ByteArray.empty y230 ((rd_T34 l0 x10_1).f1)) [.string (rdOf ByteArray.empty y230 ((rd_T34 l0 x10_1).f1))] (fun k_ => some k_ ≠ (.slice (some ad233) y230.length co32 : Value).ownBlock) (fun _ => False) rfl rfl ?aP (fun _ hk => hk.elim) ?aF ?aO ?aB ?aS ?aL ?_; (case aP => exact rfl); (case aB => exact (qB)); (case aF => exact (fun k_ hk => Kd.fresh' (Kd.R_lt (qR HO232.out)) k_ hk)); (case aO => exact (by (with_reducible repeat (first | apply Kd.R_alloc | apply Kd.R_drewN | apply Kd.R_drew)); exact Kd.R_mono HO_3.out (fun _ hk => hk.2))); (case aS => exact (below_size (qB))); (case aL => have := LMc25.out; omega); intro v235 w33 ho hb hg hat; rw [← Ny234.out] at ho; have n0_ := Aside0.mk (blk_grown (g := gb221) (o := .cells #[.int .i64 ((rd_T34 l0 x10_1).f0), .int .u64 ((rd_T34 l0 x10_1).f1)] 34 (0, 0)) (qK BK221.out) hg (Kd.R_ne HO_3.out BK221.out (by decide))); have n1_ := Aside0.mk (Kd.R_after (ok := (fun _ => True)) (qR HO232.out) hg hat); have n2_ := Aside0.mk (hb); have n3_ := Aside0.mk (ho); clear BK221; clear HO232; clear HB; clear HO_3; have BK221 := n0_; have HO232 := n1_; have HB := n2_; have HO236 := n3_; clear n0_ n1_ n2_ n3_; clear ho hb hg hat))
                        go_roundg k1
                        case measure => have := HK1.out; omega
                        case rel => exact ⟨(y234), (wrap64 (x10_1 + 1)), qS, H', ⟨by have := HK1.out; omega⟩, ⟨by (with_reducible repeat (first | apply Kd.R_alloc | apply Kd.R_drewN | apply Kd.R_drew)); exact Kd.R_mono HO236.out (fun _ hk => trivial)⟩, ⟨qB⟩⟩
                      · rw [if_neg c25] at H
                        exact absurd H (by simp)
                    · rw [if_neg c24] at H
                      exact absurd H (by simp)
                  · rw [if_neg c23] at H
                    exact absurd H (by simp)
                · rw [if_neg c22] at H
                  have c22b0 : (((rd_T34 l0 x10_1).f0) == 20) = false := beq_eq_false_iff_ne.mpr c22
                  have c22b1 : (((rd_T34 l0 x10_1).f0) != 20) = true := bne_iff_ne.mpr c22
                  by_cases c34 : ((rd_T34 l0 x10_1).f0) = 13
                  · rw [if_pos c34] at H
                    have c34b0 : (((rd_T34 l0 x10_1).f0) == 13) = true := beq_iff_eq.mpr c34
                    have c34b1 : (((rd_T34 l0 x10_1).f0) != 13) = false := bne_eq_false_iff_eq.mpr c34
                    clear c34
                    obtain ⟨ji35, hji35⟩ : ∃ j_ : Int, (wrap64 ((x3_1.length : Int) - 1)) = j_ := ⟨_, rfl⟩
                    replace H : (if 0 ≤ (ji35) then (if (ji35) < (x3_1.length : Int) then (if 1 + (rdOf ByteArray.empty x3_1 (ji35)).size ≤ 9223372036854775807 then (impl_termText.l0 k1 (x3_1.set ((ji35) : Int).toNat ((⟨#[126]⟩ : ByteArray) ++ (rdOf ByteArray.empty x3_1 (ji35)))) l0 (l0.length : Int) (wrap64 (x10_1 + 1))) else (none)) else (none)) else (none)) = some r := by first | (rw [hji35] at H; exact H) | (simp only [hji35] at H ⊢; exact H)
                    have hji35w : (IntKind.i64.wrap ((x3_1.length : Int) - 1)) = ji35 := (i64_w _).trans hji35
                    by_cases c36 : 0 ≤ (ji35)
                    · rw [if_pos c36] at H
                      have c36b0 : decide (0 ≤ (ji35)) = true := decide_eq_true c36
                      clear c36
                      by_cases c37 : (ji35) < (x3_1.length : Int)
                      · rw [if_pos c37] at H
                        have c37b0 : decide ((ji35) < (x3_1.length : Int)) = true := decide_eq_true c37
                        clear c37
                        by_cases c38 : 1 + (rdOf ByteArray.empty x3_1 (ji35)).size ≤ 9223372036854775807
                        · rw [if_pos c38] at H
                          have c38b0 := eq_true c38
                          have c38b1 : decide (1 + (rdOf ByteArray.empty x3_1 (ji35)).size ≤ 9223372036854775807) = true := decide_eq_true c38
                          try have c38b2 : (9223372036854775807 < 1 + (rdOf ByteArray.empty x3_1 (ji35)).size) = False := eq_false (Nat.not_lt.2 c38)
                          obtain ⟨y238, hy238⟩ : ∃ y_ : List ByteArray, y_ = (x3_1.set ((ji35) : Int).toNat ((⟨#[126]⟩ : ByteArray) ++ (rdOf ByteArray.empty x3_1 (ji35)))) := ⟨_, rfl⟩
                          replace H : (impl_termText.l0 k1 y238 l0 (l0.length : Int) (wrap64 (x10_1 + 1))) = some r := qY hy238 H
                          have Ny238 := Aside0.mk hy238
                          clear hy238
                          have H' := Aside0.mk H
                          clear H
                          have p220 : 0 ≤ (x10_1 : Int) := qD
                          have q220 : x10_1 < (l0.length : Int) := qD
                          obtain ⟨ad220, e220, hx220_0, hx220_1⟩ := at_T34 HR0.out x10_1 p220 q220
                          cases e220
                          replace hx220_0 := (HB.out.cell (World.block_lt_of_cell? w _ hx220_0)).trans hx220_0
                          replace hx220_1 := (HB.out.cell (World.block_lt_of_cell? w _ hx220_1)).trans hx220_1
                          replace p220 := eq_true p220
                          replace q220 := eq_true q220
                          go_wp2_with (first | ((with_reducible refine gate_dst (N := 5) rfl ?_); refine box_event ?hg (N := 5) ?hd (cs := #[.int .i64 0, .int .u64 0]) (t := 34) ?hr ?_; (case hd => rfl); (case hg => rfl); (case hr => first | (go_simp; done) | (go_simp; rfl)); intro gb221 hg w40 hbox hb; have n0_ := Aside0.mk (Kd.R_below (qR HO_3.out) hb); have n1_ := Aside0.mk (below_step (qB) hb); have n2_ := Aside0.mk (hbox); have n3_ := Aside0.mk ((by rw [hg]; exact (below_size (qB)) : w.heap.size ≤ gb221)); have n4_ := Aside0.mk ((by rw [hg]; exact (below_size (qB)) : w.heap.size ≤ gb221)); clear HO_3; clear HB; have HO_3 := n0_; have HB := n1_; have BK221 := n2_; have GW221 := n3_; have GE221 := n4_; clear n0_ n1_ n2_ n3_ n4_; clear hb hbox hg; have hcz41_0 : w40.cell? ⟨gb221, 0, none⟩ = some (.int .i64 0) := (blk_cell BK221.out 0).trans rfl; have hcz41_1 : w40.cell? ⟨gb221, 1, none⟩ = some (.int .u64 0) := (blk_cell BK221.out 1).trans rfl; have hfz41_0 := blk_frozen BK221.out 0; have hfz41_1 := blk_frozen BK221.out 1) | ((with_reducible refine gate_store (t := 34) (p := 5) rfl ?_); refine store_event (t := 34) (p := 5) (v := ?vo_w42) (w1 := ((w40.setCell ⟨gb221, 0, none⟩ (.int .i64 ((rd_T34 l0 x10_1).f0))).setCell ⟨gb221, 1, none⟩ (.int .u64 ((rd_T34 l0 x10_1).f1)))) ?hg ?ho ?hn ?hr ?_; (case ho => rfl); (case hg => rfl); (case hn => rfl); (case hr => first | (go_simp; done) | (go_simp; rfl)); intro w42 hw; have n0_ : Aside0 (Kd.R Kd.string 9 w42 w.heap.size (fun _ => True) u3 x3_1) := ⟨(by rw [hw]; exact (by (with_reducible repeat (first | apply Kd.R_alloc | apply Kd.R_drewN | apply Kd.R_drew)); exact Kd.R_mono (Kd.R_far (p := ⟨gb221, 1, none⟩) (Kd.R_far (p := ⟨gb221, 0, none⟩) (Kd.R_types HO_3.out BK221.out (by decide)) (fun _ hk => hk.2) (.int .i64 ((rd_T34 l0 x10_1).f0))) (fun _ hk => hk.2) (.int .u64 ((rd_T34 l0 x10_1).f1))) (fun _ hk => trivial)))⟩; have n1_ : Aside0 (w42.heap[gb221]? = some (.cells #[.int .i64 ((rd_T34 l0 x10_1).f0), .int .u64 ((rd_T34 l0 x10_1).f1)] 34 (0, 0))) := ⟨(by rw [hw]; exact (by (with_reducible repeat (first | refine blk_drewN ?_ _ | refine blk_drew ?_ | refine blk_alloc ?_ _)); refine blk_put (cs := #[.int .i64 ((rd_T34 l0 x10_1).f0), .int .u64 0]) ?_ 1 _ rfl; (with_reducible repeat (first | refine blk_drewN ?_ _ | refine blk_drew ?_ | refine blk_alloc ?_ _)); refine blk_put (cs := #[.int .i64 0, .int .u64 0]) ?_ 0 _ rfl; (with_reducible repeat (first | refine blk_drewN ?_ _ | refine blk_drew ?_ | refine blk_alloc ?_ _)); exact BK221.out))⟩; have n2_ : Aside0 (Below w.heap.size w w42) := ⟨(by rw [hw]; exact (qB))⟩; clear hw; clear HO_3; clear BK221; clear HB; have HO_3 := n0_; have BK221 := n1_; have HB := n2_; clear n0_ n1_ n2_; obtain ⟨Ao43, co43, eo43⟩ := Kd.R_slice HO_3.out; subst eo43; have hcz44_0 : w42.cell? ⟨gb221, 0, none⟩ = some (.int .i64 ((rd_T34 l0 x10_1).f0)) := (blk_cell BK221.out 0).trans rfl; have hcz44_1 : w42.cell? ⟨gb221, 1, none⟩ = some (.int .u64 ((rd_T34 l0 x10_1).f1)) := (blk_cell BK221.out 1).trans rfl; have hfz44_0 := blk_frozen BK221.out 0; have hfz44_1 := blk_frozen BK221.out 1; have p237 : 0 ≤ ((ji35) : Int) := qD; have q237 : (ji35) < (x3_1.length : Int) := qD; obtain ⟨ad237, e237, hx237_0⟩ := Kd.at_string (Kd.R_reads' HO_3.out).2.2 (ji35) p237 q237; cases e237; replace p237 := eq_true p237; replace q237 := eq_true q237; have p39 : 0 ≤ ((ji35) : Int) := qD; have q39 : ((ji35) : Int) < ((x3_1.length : Int) : Int) := qD; obtain ⟨go39, co39, eo39, gb39, gl39, cl39, HG39⟩ := Kd.R_form HO_3.out (by omega); (first | cases eo39 | (injection eo39 with ea_ en_ ec_; (first | subst ea_ | (injection ea_ with ea_; subst ea_)); subst ec_; clear en_)); have GB39 := Aside0.mk gb39; have GG39 := Aside0.mk HG39; clear gb39 gl39 HG39; (first | simp only [add_plain] at hx237_0 | skip); obtain ⟨hx39_0, hf39_0⟩ := Kd.R_celln (⟨#[]⟩ : ByteArray) HO_3.out ((ji35) : Int) p39 q39; replace p39 := eq_true p39; replace q39 := eq_true q39; obtain ⟨hy45_, hz45_⟩ := Kd.R_celln (⟨#[]⟩ : ByteArray) HO_3.out ((ji35) : Int) qD qD; have HP45 := Kd.R_putg HO_3.out ((ji35) : Int) ((⟨#[126]⟩ : ByteArray) ++ (rdOf ByteArray.empty x3_1 (ji35)))) | ((with_reducible refine gate_store (t := 9) (p := 77) rfl ?_); refine store_event (t := 9) (p := 77) (v := ?vo_w46) (w1 := (w42.setCell ⟨go39, ((ji35) : Int).toNat, none⟩ (.string ((⟨#[126]⟩ : ByteArray) ++ (rdOf ByteArray.empty x3_1 (ji35)))))) ?hg ?ho ?hn ?hr ?_; (case ho => rfl); (case hg => rfl); (case hn => rfl); (case hr => first | (go_simp; done) | (go_simp; rfl)); intro w46 hw; have hg : w42.grownBy w46 (some go39) := (by rw [hw]; exact HP45.2); have hp_ : Kd.R Kd.string 9 w46 w.heap.size (fun _ => True) (.slice (some ⟨go39, 0, none⟩) x3_1.length co43) y238 := (by rw [hw, Ny238.out]; exact HP45.1); clear HP45; have n0_ := Aside0.mk (hp_); have n1_ := Aside0.mk (blk_grown (g := gb221) (o := .cells #[.int .i64 ((rd_T34 l0 x10_1).f0), .int .u64 ((rd_T34 l0 x10_1).f1)] 34 (0, 0)) (qK BK221.out) hg (Kd.R_ne HO_3.out BK221.out (by decide))); have n2_ := Aside0.mk ((by rw [hw]; exact below_set (HB.out) GB39.out : Below w.heap.size w w46)); clear HO_3; clear BK221; clear HB; have HO_3 := n0_; have BK221 := n1_; have HB := n2_; clear n0_ n1_ n2_; clear hg hw hp_))
                          go_roundg k1
                          case measure => have := HK1.out; omega
                          case rel => exact ⟨(y238), (wrap64 (x10_1 + 1)), qS, H', ⟨by have := HK1.out; omega⟩, ⟨qR HO_3.out⟩, ⟨qB⟩⟩
                        · rw [if_neg c38] at H
                          exact absurd H (by simp)
                      · rw [if_neg c37] at H
                        exact absurd H (by simp)
                    · rw [if_neg c36] at H
                      exact absurd H (by simp)
                  · rw [if_neg c34] at H
                    have c34b0 : (((rd_T34 l0 x10_1).f0) == 13) = false := beq_eq_false_iff_ne.mpr c34
                    have c34b1 : (((rd_T34 l0 x10_1).f0) != 13) = true := bne_iff_ne.mpr c34
                    by_cases c47 : ((rd_T34 l0 x10_1).f0) = 19
                    · rw [if_pos c47] at H
                      have c47b0 : (((rd_T34 l0 x10_1).f0) == 19) = true := beq_iff_eq.mpr c47
                      have c47b1 : (((rd_T34 l0 x10_1).f0) != 19) = false := bne_eq_false_iff_eq.mpr c47
                      clear c47
                      obtain ⟨ji48, hji48⟩ : ∃ j_ : Int, (wrap64 ((x3_1.length : Int) - 1)) = j_ := ⟨_, rfl⟩
                      replace H : (if 0 ≤ (ji48) then (if (ji48) < (x3_1.length : Int) then (if 1 + (rdOf ByteArray.empty x3_1 (ji48)).size ≤ 9223372036854775807 then (impl_termText.l0 k1 (x3_1.set ((ji48) : Int).toNat ((⟨#[33]⟩ : ByteArray) ++ (rdOf ByteArray.empty x3_1 (ji48)))) l0 (l0.length : Int) (wrap64 (x10_1 + 1))) else (none)) else (none)) else (none)) = some r := by first | (rw [hji48] at H; exact H) | (simp only [hji48] at H ⊢; exact H)
                      have hji48w : (IntKind.i64.wrap ((x3_1.length : Int) - 1)) = ji48 := (i64_w _).trans hji48
                      by_cases c49 : 0 ≤ (ji48)
                      · rw [if_pos c49] at H
                        have c49b0 : decide (0 ≤ (ji48)) = true := decide_eq_true c49
                        clear c49
                        by_cases c50 : (ji48) < (x3_1.length : Int)
                        · rw [if_pos c50] at H
                          have c50b0 : decide ((ji48) < (x3_1.length : Int)) = true := decide_eq_true c50
                          clear c50
                          by_cases c51 : 1 + (rdOf ByteArray.empty x3_1 (ji48)).size ≤ 9223372036854775807
                          · rw [if_pos c51] at H
                            have c51b0 := eq_true c51
                            have c51b1 : decide (1 + (rdOf ByteArray.empty x3_1 (ji48)).size ≤ 9223372036854775807) = true := decide_eq_true c51
                            try have c51b2 : (9223372036854775807 < 1 + (rdOf ByteArray.empty x3_1 (ji48)).size) = False := eq_false (Nat.not_lt.2 c51)
                            obtain ⟨y240, hy240⟩ : ∃ y_ : List ByteArray, y_ = (x3_1.set ((ji48) : Int).toNat ((⟨#[33]⟩ : ByteArray) ++ (rdOf ByteArray.empty x3_1 (ji48)))) := ⟨_, rfl⟩
                            replace H : (impl_termText.l0 k1 y240 l0 (l0.length : Int) (wrap64 (x10_1 + 1))) = some r := qY hy240 H
                            have Ny240 := Aside0.mk hy240
                            clear hy240
                            have H' := Aside0.mk H
                            clear H
                            have p220 : 0 ≤ (x10_1 : Int) := qD
                            have q220 : x10_1 < (l0.length : Int) := qD
                            obtain ⟨ad220, e220, hx220_0, hx220_1⟩ := at_T34 HR0.out x10_1 p220 q220
                            cases e220
                            replace hx220_0 := (HB.out.cell (World.block_lt_of_cell? w _ hx220_0)).trans hx220_0
                            replace hx220_1 := (HB.out.cell (World.block_lt_of_cell? w _ hx220_1)).trans hx220_1
                            replace p220 := eq_true p220
                            replace q220 := eq_true q220
                            go_wp2_with (first | ((with_reducible refine gate_dst (N := 5) rfl ?_); refine box_event ?hg (N := 5) ?hd (cs := #[.int .i64 0, .int .u64 0]) (t := 34) ?hr ?_; (case hd => rfl); (case hg => rfl); (case hr => first | (go_simp; done) | (go_simp; rfl)); intro gb221 hg w53 hbox hb; have n0_ := Aside0.mk (Kd.R_below (qR HO_3.out) hb); have n1_ := Aside0.mk (below_step (qB) hb); have n2_ := Aside0.mk (hbox); have n3_ := Aside0.mk ((by rw [hg]; exact (below_size (qB)) : w.heap.size ≤ gb221)); have n4_ := Aside0.mk ((by rw [hg]; exact (below_size (qB)) : w.heap.size ≤ gb221)); clear HO_3; clear HB; have HO_3 := n0_; have HB := n1_; have BK221 := n2_; have GW221 := n3_; have GE221 := n4_; clear n0_ n1_ n2_ n3_ n4_; clear hb hbox hg; have hcz54_0 : w53.cell? ⟨gb221, 0, none⟩ = some (.int .i64 0) := (blk_cell BK221.out 0).trans rfl; have hcz54_1 : w53.cell? ⟨gb221, 1, none⟩ = some (.int .u64 0) := (blk_cell BK221.out 1).trans rfl; have hfz54_0 := blk_frozen BK221.out 0; have hfz54_1 := blk_frozen BK221.out 1) | ((with_reducible refine gate_store (t := 34) (p := 5) rfl ?_); refine store_event (t := 34) (p := 5) (v := ?vo_w55) (w1 := ((w53.setCell ⟨gb221, 0, none⟩ (.int .i64 ((rd_T34 l0 x10_1).f0))).setCell ⟨gb221, 1, none⟩ (.int .u64 ((rd_T34 l0 x10_1).f1)))) ?hg ?ho ?hn ?hr ?_; (case ho => rfl); (case hg => rfl); (case hn => rfl); (case hr => first | (go_simp; done) | (go_simp; rfl)); intro w55 hw; have n0_ : Aside0 (Kd.R Kd.string 9 w55 w.heap.size (fun _ => True) u3 x3_1) := ⟨(by rw [hw]; exact (by (with_reducible repeat (first | apply Kd.R_alloc | apply Kd.R_drewN | apply Kd.R_drew)); exact Kd.R_mono (Kd.R_far (p := ⟨gb221, 1, none⟩) (Kd.R_far (p := ⟨gb221, 0, none⟩) (Kd.R_types HO_3.out BK221.out (by decide)) (fun _ hk => hk.2) (.int .i64 ((rd_T34 l0 x10_1).f0))) (fun _ hk => hk.2) (.int .u64 ((rd_T34 l0 x10_1).f1))) (fun _ hk => trivial)))⟩; have n1_ : Aside0 (w55.heap[gb221]? = some (.cells #[.int .i64 ((rd_T34 l0 x10_1).f0), .int .u64 ((rd_T34 l0 x10_1).f1)] 34 (0, 0))) := ⟨(by rw [hw]; exact (by (with_reducible repeat (first | refine blk_drewN ?_ _ | refine blk_drew ?_ | refine blk_alloc ?_ _)); refine blk_put (cs := #[.int .i64 ((rd_T34 l0 x10_1).f0), .int .u64 0]) ?_ 1 _ rfl; (with_reducible repeat (first | refine blk_drewN ?_ _ | refine blk_drew ?_ | refine blk_alloc ?_ _)); refine blk_put (cs := #[.int .i64 0, .int .u64 0]) ?_ 0 _ rfl; (with_reducible repeat (first | refine blk_drewN ?_ _ | refine blk_drew ?_ | refine blk_alloc ?_ _)); exact BK221.out))⟩; have n2_ : Aside0 (Below w.heap.size w w55) := ⟨(by rw [hw]; exact (qB))⟩; clear hw; clear HO_3; clear BK221; clear HB; have HO_3 := n0_; have BK221 := n1_; have HB := n2_; clear n0_ n1_ n2_; obtain ⟨Ao56, co56, eo56⟩ := Kd.R_slice HO_3.out; subst eo56; have hcz57_0 : w55.cell? ⟨gb221, 0, none⟩ = some (.int .i64 ((rd_T34 l0 x10_1).f0)) := (blk_cell BK221.out 0).trans rfl; have hcz57_1 : w55.cell? ⟨gb221, 1, none⟩ = some (.int .u64 ((rd_T34 l0 x10_1).f1)) := (blk_cell BK221.out 1).trans rfl; have hfz57_0 := blk_frozen BK221.out 0; have hfz57_1 := blk_frozen BK221.out 1; have p239 : 0 ≤ ((ji48) : Int) := qD; have q239 : (ji48) < (x3_1.length : Int) := qD; obtain ⟨ad239, e239, hx239_0⟩ := Kd.at_string (Kd.R_reads' HO_3.out).2.2 (ji48) p239 q239; cases e239; replace p239 := eq_true p239; replace q239 := eq_true q239; have p52 : 0 ≤ ((ji48) : Int) := qD; have q52 : ((ji48) : Int) < ((x3_1.length : Int) : Int) := qD; obtain ⟨go52, co52, eo52, gb52, gl52, cl52, HG52⟩ := Kd.R_form HO_3.out (by omega); (first | cases eo52 | (injection eo52 with ea_ en_ ec_; (first | subst ea_ | (injection ea_ with ea_; subst ea_)); subst ec_; clear en_)); have GB52 := Aside0.mk gb52; have GG52 := Aside0.mk HG52; clear gb52 gl52 HG52; (first | simp only [add_plain] at hx239_0 | skip); obtain ⟨hx52_0, hf52_0⟩ := Kd.R_celln (⟨#[]⟩ : ByteArray) HO_3.out ((ji48) : Int) p52 q52; replace p52 := eq_true p52; replace q52 := eq_true q52; obtain ⟨hy58_, hz58_⟩ := Kd.R_celln (⟨#[]⟩ : ByteArray) HO_3.out ((ji48) : Int) qD qD; have HP58 := Kd.R_putg HO_3.out ((ji48) : Int) ((⟨#[33]⟩ : ByteArray) ++ (rdOf ByteArray.empty x3_1 (ji48)))) | ((with_reducible refine gate_store (t := 9) (p := 87) rfl ?_); refine store_event (t := 9) (p := 87) (v := ?vo_w59) (w1 := (w55.setCell ⟨go52, ((ji48) : Int).toNat, none⟩ (.string ((⟨#[33]⟩ : ByteArray) ++ (rdOf ByteArray.empty x3_1 (ji48)))))) ?hg ?ho ?hn ?hr ?_; (case ho => rfl); (case hg => rfl); (case hn => rfl); (case hr => first | (go_simp; done) | (go_simp; rfl)); intro w59 hw; have hg : w55.grownBy w59 (some go52) := (by rw [hw]; exact HP58.2); have hp_ : Kd.R Kd.string 9 w59 w.heap.size (fun _ => True) (.slice (some ⟨go52, 0, none⟩) x3_1.length co56) y240 := (by rw [hw, Ny240.out]; exact HP58.1); clear HP58; have n0_ := Aside0.mk (hp_); have n1_ := Aside0.mk (blk_grown (g := gb221) (o := .cells #[.int .i64 ((rd_T34 l0 x10_1).f0), .int .u64 ((rd_T34 l0 x10_1).f1)] 34 (0, 0)) (qK BK221.out) hg (Kd.R_ne HO_3.out BK221.out (by decide))); have n2_ := Aside0.mk ((by rw [hw]; exact below_set (HB.out) GB52.out : Below w.heap.size w w59)); clear HO_3; clear BK221; clear HB; have HO_3 := n0_; have BK221 := n1_; have HB := n2_; clear n0_ n1_ n2_; clear hg hw hp_))
                            go_roundg k1
                            case measure => have := HK1.out; omega
                            case rel => exact ⟨(y240), (wrap64 (x10_1 + 1)), qS, H', ⟨by have := HK1.out; omega⟩, ⟨qR HO_3.out⟩, ⟨qB⟩⟩
                          · rw [if_neg c51] at H
                            exact absurd H (by simp)
                        · rw [if_neg c50] at H
                          exact absurd H (by simp)
                      · rw [if_neg c49] at H
                        exact absurd H (by simp)
                    · rw [if_neg c47] at H
                      have c47b0 : (((rd_T34 l0 x10_1).f0) == 19) = false := beq_eq_false_iff_ne.mpr c47
                      have c47b1 : (((rd_T34 l0 x10_1).f0) != 19) = true := bne_iff_ne.mpr c47
                      obtain ⟨ji60, hji60⟩ : ∃ j_ : Int, (wrap64 ((wrap64 ((x3_1.length : Int) - 1)) - 1)) = j_ := ⟨_, rfl⟩
                      replace H : (if 0 ≤ (ji60) then (if (ji60) ≤ (x3_1.length : Int) then ((some (x3_1.take ((ji60) : Int).toNat : List ByteArray)).bind fun y241 => (if (ji60) < (x3_1.length : Int) then (if 1 + (rdOf ByteArray.empty x3_1 (ji60)).size ≤ 9223372036854775807 then ((impl_signOf.f ((rd_T34 l0 x10_1).f0)).bind fun t245 => (if 1 + (rdOf ByteArray.empty x3_1 (ji60)).size + t245.size ≤ 9223372036854775807 then (if 0 ≤ (wrap64 ((x3_1.length : Int) - 1)) then (if (wrap64 ((x3_1.length : Int) - 1)) < (x3_1.length : Int) then (if 1 + (rdOf ByteArray.empty x3_1 (ji60)).size + t245.size + (rdOf ByteArray.empty x3_1 (wrap64 ((x3_1.length : Int) - 1))).size ≤ 9223372036854775807 then (if 1 + (rdOf ByteArray.empty x3_1 (ji60)).size + t245.size + (rdOf ByteArray.empty x3_1 (wrap64 ((x3_1.length : Int) - 1))).size + 1 ≤ 9223372036854775807 then (if y241.length < 8796093022208 then (impl_termText.l0 k1 (y241 ++ [((((⟨#[40]⟩ : ByteArray) ++ (rdOf ByteArray.empty x3_1 (ji60))) ++ t245) ++ (rdOf ByteArray.empty x3_1 (wrap64 ((x3_1.length : Int) - 1)))) ++ (⟨#[41]⟩ : ByteArray)]) l0 (l0.length : Int) (wrap64 (x10_1 + 1))) else (none)) else (none)) else (none)) else (none)) else (none)) else (none))) else (none)) else (none))) else (none)) else (none)) = some r := by first | (rw [hji60] at H; exact H) | (simp only [hji60] at H ⊢; exact H)
                      have hji60w : (IntKind.i64.wrap ((wrap64 ((x3_1.length : Int) - 1)) - 1)) = ji60 := (i64_w _).trans hji60
                      by_cases c61 : 0 ≤ (ji60)
                      · rw [if_pos c61] at H
                        have c61b0 := eq_true c61
                        have c61b1 : decide (0 ≤ (ji60)) = true := decide_eq_true c61
                        clear c61
                        by_cases c62 : (ji60) ≤ (x3_1.length : Int)
                        · rw [if_pos c62] at H
                          have c62b0 := eq_true c62
                          have c62b1 : decide ((ji60) ≤ (x3_1.length : Int)) = true := decide_eq_true c62
                          clear c62
                          obtain ⟨y241, hy241⟩ : ∃ y_ : List ByteArray, y_ = (x3_1.take ((ji60) : Int).toNat) := ⟨_, rfl⟩
                          replace H : (if (ji60) < (x3_1.length : Int) then (if 1 + (rdOf ByteArray.empty x3_1 (ji60)).size ≤ 9223372036854775807 then ((impl_signOf.f ((rd_T34 l0 x10_1).f0)).bind fun t245 => (if 1 + (rdOf ByteArray.empty x3_1 (ji60)).size + t245.size ≤ 9223372036854775807 then (if 0 ≤ (wrap64 ((x3_1.length : Int) - 1)) then (if (wrap64 ((x3_1.length : Int) - 1)) < (x3_1.length : Int) then (if 1 + (rdOf ByteArray.empty x3_1 (ji60)).size + t245.size + (rdOf ByteArray.empty x3_1 (wrap64 ((x3_1.length : Int) - 1))).size ≤ 9223372036854775807 then (if 1 + (rdOf ByteArray.empty x3_1 (ji60)).size + t245.size + (rdOf ByteArray.empty x3_1 (wrap64 ((x3_1.length : Int) - 1))).size + 1 ≤ 9223372036854775807 then (if y241.length < 8796093022208 then (impl_termText.l0 k1 (y241 ++ [((((⟨#[40]⟩ : ByteArray) ++ (rdOf ByteArray.empty x3_1 (ji60))) ++ t245) ++ (rdOf ByteArray.empty x3_1 (wrap64 ((x3_1.length : Int) - 1)))) ++ (⟨#[41]⟩ : ByteArray)]) l0 (l0.length : Int) (wrap64 (x10_1 + 1))) else (none)) else (none)) else (none)) else (none)) else (none)) else (none))) else (none)) else (none)) = some r := qY hy241 H
                          have Ny241 := Aside0.mk hy241
                          clear hy241
                          by_cases c63 : (ji60) < (x3_1.length : Int)
                          · rw [if_pos c63] at H
                            have c63b0 : decide ((ji60) < (x3_1.length : Int)) = true := decide_eq_true c63
                            clear c63
                            by_cases c64 : 1 + (rdOf ByteArray.empty x3_1 (ji60)).size ≤ 9223372036854775807
                            · rw [if_pos c64] at H
                              have c64b0 := eq_true c64
                              have c64b1 : decide (1 + (rdOf ByteArray.empty x3_1 (ji60)).size ≤ 9223372036854775807) = true := decide_eq_true c64
                              try have c64b2 : (9223372036854775807 < 1 + (rdOf ByteArray.empty x3_1 (ji60)).size) = False := eq_false (Nat.not_lt.2 c64)
                              replace H := Option.bind_eq_some_iff.mp H
                              obtain ⟨t245, A650, H⟩ := H
                              replace H : (if 1 + (rdOf ByteArray.empty x3_1 (ji60)).size + t245.size ≤ 9223372036854775807 then (if 0 ≤ (wrap64 ((x3_1.length : Int) - 1)) then (if (wrap64 ((x3_1.length : Int) - 1)) < (x3_1.length : Int) then (if 1 + (rdOf ByteArray.empty x3_1 (ji60)).size + t245.size + (rdOf ByteArray.empty x3_1 (wrap64 ((x3_1.length : Int) - 1))).size ≤ 9223372036854775807 then (if 1 + (rdOf ByteArray.empty x3_1 (ji60)).size + t245.size + (rdOf ByteArray.empty x3_1 (wrap64 ((x3_1.length : Int) - 1))).size + 1 ≤ 9223372036854775807 then (if y241.length < 8796093022208 then (impl_termText.l0 k1 (y241 ++ [((((⟨#[40]⟩ : ByteArray) ++ (rdOf ByteArray.empty x3_1 (ji60))) ++ t245) ++ (rdOf ByteArray.empty x3_1 (wrap64 ((x3_1.length : Int) - 1)))) ++ (⟨#[41]⟩ : ByteArray)]) l0 (l0.length : Int) (wrap64 (x10_1 + 1))) else (none)) else (none)) else (none)) else (none)) else (none)) else (none)) = some r := H
                              have A65 := Aside0.mk A650
                              clear A650
                              by_cases c66 : 1 + (rdOf ByteArray.empty x3_1 (ji60)).size + t245.size ≤ 9223372036854775807
                              · rw [if_pos c66] at H
                                have c66b0 := eq_true c66
                                have c66b1 : decide (1 + (rdOf ByteArray.empty x3_1 (ji60)).size + t245.size ≤ 9223372036854775807) = true := decide_eq_true c66
                                try have c66b2 : (9223372036854775807 < 1 + (rdOf ByteArray.empty x3_1 (ji60)).size + t245.size) = False := eq_false (Nat.not_lt.2 c66)
                                obtain ⟨ji67, hji67⟩ : ∃ j_ : Int, (wrap64 ((x3_1.length : Int) - 1)) = j_ := ⟨_, rfl⟩
                                replace H : (if 0 ≤ (ji67) then (if (ji67) < (x3_1.length : Int) then (if 1 + (rdOf ByteArray.empty x3_1 (ji60)).size + t245.size + (rdOf ByteArray.empty x3_1 (ji67)).size ≤ 9223372036854775807 then (if 1 + (rdOf ByteArray.empty x3_1 (ji60)).size + t245.size + (rdOf ByteArray.empty x3_1 (ji67)).size + 1 ≤ 9223372036854775807 then (if y241.length < 8796093022208 then (impl_termText.l0 k1 (y241 ++ [((((⟨#[40]⟩ : ByteArray) ++ (rdOf ByteArray.empty x3_1 (ji60))) ++ t245) ++ (rdOf ByteArray.empty x3_1 (ji67))) ++ (⟨#[41]⟩ : ByteArray)]) l0 (l0.length : Int) (wrap64 (x10_1 + 1))) else (none)) else (none)) else (none)) else (none)) else (none)) = some r := by first | (rw [hji67] at H; exact H) | (simp only [hji67] at H ⊢; exact H)
                                (try rw [hji67] at A65)
                                have hji67w : (IntKind.i64.wrap ((x3_1.length : Int) - 1)) = ji67 := (i64_w _).trans hji67
                                have hz_ : wrap64 (ji67 - 1) = ji60 := by rw [← hji67]; exact hji60
                                have hzw_ := (i64_w _).trans hz_
                                by_cases c68 : 0 ≤ (ji67)
                                · rw [if_pos c68] at H
                                  have c68b0 : decide (0 ≤ (ji67)) = true := decide_eq_true c68
                                  clear c68
                                  by_cases c69 : (ji67) < (x3_1.length : Int)
                                  · rw [if_pos c69] at H
                                    have c69b0 : decide ((ji67) < (x3_1.length : Int)) = true := decide_eq_true c69
                                    clear c69
                                    by_cases c70 : 1 + (rdOf ByteArray.empty x3_1 (ji60)).size + t245.size + (rdOf ByteArray.empty x3_1 (ji67)).size ≤ 9223372036854775807
                                    · rw [if_pos c70] at H
                                      have c70b0 := eq_true c70
                                      have c70b1 : decide (1 + (rdOf ByteArray.empty x3_1 (ji60)).size + t245.size + (rdOf ByteArray.empty x3_1 (ji67)).size ≤ 9223372036854775807) = true := decide_eq_true c70
                                      try have c70b2 : (9223372036854775807 < 1 + (rdOf ByteArray.empty x3_1 (ji60)).size + t245.size + (rdOf ByteArray.empty x3_1 (ji67)).size) = False := eq_false (Nat.not_lt.2 c70)
                                      by_cases c71 : 1 + (rdOf ByteArray.empty x3_1 (ji60)).size + t245.size + (rdOf ByteArray.empty x3_1 (ji67)).size + 1 ≤ 9223372036854775807
                                      · rw [if_pos c71] at H
                                        have c71b0 := eq_true c71
                                        have c71b1 : decide (1 + (rdOf ByteArray.empty x3_1 (ji60)).size + t245.size + (rdOf ByteArray.empty x3_1 (ji67)).size + 1 ≤ 9223372036854775807) = true := decide_eq_true c71
                                        try have c71b2 : (9223372036854775807 < 1 + (rdOf ByteArray.empty x3_1 (ji60)).size + t245.size + (rdOf ByteArray.empty x3_1 (ji67)).size + 1) = False := eq_false (Nat.not_lt.2 c71)
                                        by_cases c72 : y241.length < 8796093022208
                                        · rw [if_pos c72] at H
                                          have LMc72 := Aside0.mk c72
                                          clear c72
                                          obtain ⟨y247, hy247⟩ : ∃ y_ : List ByteArray, y_ = (y241 ++ [((((⟨#[40]⟩ : ByteArray) ++ (rdOf ByteArray.empty x3_1 (ji60))) ++ t245) ++ (rdOf ByteArray.empty x3_1 (ji67))) ++ (⟨#[41]⟩ : ByteArray)]) := ⟨_, rfl⟩
                                          replace H : (impl_termText.l0 k1 y247 l0 (l0.length : Int) (wrap64 (x10_1 + 1))) = some r := qY hy247 H
                                          have Ny247 := Aside0.mk hy247
                                          clear hy247
                                          have H' := Aside0.mk H
                                          clear H
                                          have p220 : 0 ≤ (x10_1 : Int) := qD
                                          have q220 : x10_1 < (l0.length : Int) := qD
                                          obtain ⟨ad220, e220, hx220_0, hx220_1⟩ := at_T34 HR0.out x10_1 p220 q220
                                          cases e220
                                          replace hx220_0 := (HB.out.cell (World.block_lt_of_cell? w _ hx220_0)).trans hx220_0
                                          replace hx220_1 := (HB.out.cell (World.block_lt_of_cell? w _ hx220_1)).trans hx220_1
                                          replace p220 := eq_true p220
                                          replace q220 := eq_true q220
                                          try go_wp2_with (first | ((with_reducible refine gate_dst (N := 5) rfl ?_); refine box_event ?hg (N := 5) ?hd (cs := #[.int .i64 0, .int .u64 0]) (t := 34) ?hr ?_; (case hd => rfl); (case hg => rfl); (case hr => first | (go_simp; done) | (go_simp; rfl)); intro gb221 hg w73 hbox hb; have n0_ := Aside0.mk (Kd.R_below (qR HO_3.out) hb); have n1_ := Aside0.mk (below_step (qB) hb); have n2_ := Aside0.mk (hbox); have n3_ := Aside0.mk ((by rw [hg]; exact (below_size (qB)) : w.heap.size ≤ gb221)); have n4_ := Aside0.mk ((by rw [hg]; exact (below_size (qB)) : w.heap.size ≤ gb221)); clear HO_3; clear HB; have HO_3 := n0_; have HB := n1_; have BK221 := n2_; have GW221 := n3_; have GE221 := n4_; clear n0_ n1_ n2_ n3_ n4_; clear hb hbox hg; have hcz74_0 : w73.cell? ⟨gb221, 0, none⟩ = some (.int .i64 0) := (blk_cell BK221.out 0).trans rfl; have hcz74_1 : w73.cell? ⟨gb221, 1, none⟩ = some (.int .u64 0) := (blk_cell BK221.out 1).trans rfl; have hfz74_0 := blk_frozen BK221.out 0; have hfz74_1 := blk_frozen BK221.out 1; obtain ⟨Ao75, co75, eo75⟩ := Kd.R_slice HO_3.out; subst eo75))
                                          have n0_ : Aside0 (Kd.R Kd.string 9 ((w73.setCell ⟨gb221, 0, none⟩ (.int .i64 ((rd_T34 l0 x10_1).f0))).setCell ⟨gb221, 1, none⟩ (.int .u64 ((rd_T34 l0 x10_1).f1))) w.heap.size (fun _ => True) (.slice Ao75 x3_1.length co75) x3_1) := ⟨by (with_reducible repeat (first | apply Kd.R_alloc | apply Kd.R_drewN | apply Kd.R_drew)); exact Kd.R_mono (Kd.R_far (p := ⟨gb221, 1, none⟩) (Kd.R_far (p := ⟨gb221, 0, none⟩) (Kd.R_types HO_3.out BK221.out (by decide)) (fun _ hk => hk.2) (.int .i64 ((rd_T34 l0 x10_1).f0))) (fun _ hk => hk.2) (.int .u64 ((rd_T34 l0 x10_1).f1))) (fun _ hk => trivial)⟩
                                          have n1_ : Aside0 (((w73.setCell ⟨gb221, 0, none⟩ (.int .i64 ((rd_T34 l0 x10_1).f0))).setCell ⟨gb221, 1, none⟩ (.int .u64 ((rd_T34 l0 x10_1).f1))).heap[gb221]? = some (.cells #[.int .i64 ((rd_T34 l0 x10_1).f0), .int .u64 ((rd_T34 l0 x10_1).f1)] 34 (0, 0))) := ⟨by (with_reducible repeat (first | refine blk_drewN ?_ _ | refine blk_drew ?_ | refine blk_alloc ?_ _)); refine blk_put (cs := #[.int .i64 ((rd_T34 l0 x10_1).f0), .int .u64 0]) ?_ 1 _ rfl; (with_reducible repeat (first | refine blk_drewN ?_ _ | refine blk_drew ?_ | refine blk_alloc ?_ _)); refine blk_put (cs := #[.int .i64 0, .int .u64 0]) ?_ 0 _ rfl; (with_reducible repeat (first | refine blk_drewN ?_ _ | refine blk_drew ?_ | refine blk_alloc ?_ _)); exact BK221.out⟩
                                          have n2_ : Aside0 (Below w.heap.size w ((w73.setCell ⟨gb221, 0, none⟩ (.int .i64 ((rd_T34 l0 x10_1).f0))).setCell ⟨gb221, 1, none⟩ (.int .u64 ((rd_T34 l0 x10_1).f1)))) := ⟨qB⟩
                                          (try clear HO_3)
                                          (try clear BK221)
                                          (try clear HB)
                                          generalize ((w73.setCell ⟨gb221, 0, none⟩ (.int .i64 ((rd_T34 l0 x10_1).f0))).setCell ⟨gb221, 1, none⟩ (.int .u64 ((rd_T34 l0 x10_1).f1))) = w76 at n0_ n1_ n2_ ⊢
                                          have HO_3 := n0_
                                          have BK221 := n1_
                                          have HB := n2_
                                          clear n0_ n1_ n2_
                                          have n0_ := Aside0.mk (Kd.R_drew HO_3.out)
                                          have n1_ := Aside0.mk (blk_drew BK221.out)
                                          have n2_ := Aside0.mk (below_drew1 HB.out)
                                          clear HO_3
                                          clear BK221
                                          clear HB
                                          have HO_3 := n0_
                                          have BK221 := n1_
                                          have HB := n2_
                                          clear n0_ n1_ n2_
                                          have q78 : ((ji60) : Int) ≤ ((x3_1.length : Int) : Int) := qD
                                          obtain ⟨i078, hi078, _, hsz78, _⟩ := info_parts info9
                                          have hcut78 := cut_to (P := Tryd.prog) 49 9 .i64 Tryd.underlying49 hi078 Ao75 x3_1.length co75 (ji60) qD q78 (Kd.R_reads' HO_3.out).2.1
                                          have hr78 := Kd.R_take (m := ((ji60) : Int).toNat) HO_3.out (by omega)
                                          have hy78 : y241.length = ((ji60) : Int).toNat := (by rw [Ny241.out, List.length_take]; omega)
                                          rw [← Ny241.out] at hr78
                                          rw [← hy78] at hr78 hcut78
                                          clear hy78 hi078 hsz78 
                                          have HO243 := Aside0.mk hr78
                                          clear hr78
                                          replace q78 := eq_true q78
                                          have p244 : 0 ≤ ((ji60) : Int) := qD
                                          have q244 : (ji60) < (x3_1.length : Int) := qD
                                          obtain ⟨ad244, e244, hx244_0⟩ := Kd.at_string (Kd.R_reads' HO_3.out).2.2 (ji60) p244 q244
                                          cases e244
                                          replace p244 := eq_true p244
                                          replace q244 := eq_true q244
                                          have p246 : 0 ≤ ((ji67) : Int) := qD
                                          have q246 : (ji67) < (x3_1.length : Int) := qD
                                          obtain ⟨ad246, e246, hx246_0⟩ := Kd.at_string (Kd.R_reads' HO_3.out).2.2 (ji67) p246 q246
                                          obtain rfl : ad244 = ad246 := (by injection e246)
                                          replace p246 := eq_true p246
                                          replace q246 := eq_true q246
                                          refine start_ (n := 23) (S := fun w' => w'.cell? ⟨gb221, 0, none⟩ = some (.int .i64 ((rd_T34 l0 x10_1).f0)) ∧ w'.cell? ⟨gb221, 1, none⟩ = some (.int .u64 ((rd_T34 l0 x10_1).f1)) ∧ w'.cell? (ad244.add ((ji60)).toNat) = some (.string (rdOf ByteArray.empty x3_1 (ji60))) ∧ w'.cell? (ad244.add ((ji67)).toNat) = some (.string (rdOf ByteArray.empty x3_1 (ji67)))) (ds := [20, 21]) #[false, false, false, false, false, false, false, false, false, false, false, false, false, false, false, false, false, false, false, false, false, false, false] (by kernel_rfl) rfl rfl ⟨(blk_cell BK221.out 0).trans rfl, (blk_cell BK221.out 1).trans rfl, hx244_0, hx246_0⟩ (fun hHeld => ?_); refine with_tabW impl_termText.tab7 impl_termText.bits7 (fun HT_ HW_ => ?_)
                                          generalize w76.drew = w77 at HO_3 BK221 HB HO243 hx244_0 hx246_0 hHeld ⊢
                                          refine pure_ (i := 0) (N := some 19) (v := ?_) (a' := ?_) #[true, false, false, false, false, false, false, false, false, false, false, false, false, false, false, false, false, false, false, false, false, false, false] rfl rfl (any_of HT_.out (by kernel_rfl)) (fun _ _ _ h => h) (Or.inl ⟨by rfl, ?_⟩) ?_ ?_
                                          rotate_left
                                          · intro w'
                                            go_simp
                                            (try simp only [hzw_, hz_])
                                            with_reducible rfl
                                          rotate_left
                                          · simp only [Act.put, List.setIfInBounds_toArray, List.set_cons_zero, List.set_cons_succ, i64_w, i32_w]
                                            rfl
                                          refine pure_ (i := 1) (N := some 20) (v := ?_) (a' := ?_) #[true, true, false, false, false, false, false, false, false, false, false, false, false, false, false, false, false, false, false, false, false, false, false] rfl rfl (any_of HT_.out (by kernel_rfl)) (fun _ _ _ h => h) (Or.inl ⟨by rfl, ?_⟩) ?_ ?_
                                          rotate_left
                                          · intro w'
                                            go_simp
                                            (try simp only [hzw_, hz_])
                                            with_reducible rfl
                                          rotate_left
                                          · simp only [Act.put, List.setIfInBounds_toArray, List.set_cons_zero, List.set_cons_succ, i64_w, i32_w]
                                            rfl
                                          refine pure_ (i := 2) (N := some 21) (v := ?_) (a' := ?_) #[true, true, true, false, false, false, false, false, false, false, false, false, false, false, false, false, false, false, false, false, false, false, false] rfl rfl (any_of HT_.out (by kernel_rfl)) (fun _ _ _ h => h) (Or.inl ⟨by rfl, ?_⟩) ?_ ?_
                                          rotate_left
                                          · intro w'
                                            go_simp
                                            (try simp only [hzw_, hz_])
                                            with_reducible rfl
                                          rotate_left
                                          · simp only [Act.put, List.setIfInBounds_toArray, List.set_cons_zero, List.set_cons_succ, i64_w, i32_w]
                                            rfl
                                          refine pure_ (i := 3) (N := some 22) (v := ?_) (a' := ?_) #[true, true, true, true, false, false, false, false, false, false, false, false, false, false, false, false, false, false, false, false, false, false, false] rfl rfl (any_of HT_.out (by kernel_rfl)) (fun _ _ _ h => h) (Or.inl ⟨by rfl, ?_⟩) ?_ ?_
                                          rotate_left
                                          · intro w'
                                            go_simp
                                            (try simp only [hzw_, hz_])
                                            with_reducible rfl
                                          rotate_left
                                          · simp only [Act.put, List.setIfInBounds_toArray, List.set_cons_zero, List.set_cons_succ, i64_w, i32_w]
                                            rfl
                                          refine pure_ (i := 4) (N := some 23) (v := ?_) (a' := ?_) #[true, true, true, true, true, false, false, false, false, false, false, false, false, false, false, false, false, false, false, false, false, false, false] rfl rfl (any_of HT_.out (by kernel_rfl)) (fun _ _ _ h => h) (Or.inl ⟨by rfl, ?_⟩) ?_ ?_
                                          rotate_left
                                          · intro w'
                                            go_simp
                                            (try simp only [hzw_, hz_])
                                            with_reducible rfl
                                          rotate_left
                                          · simp only [Act.put, List.setIfInBounds_toArray, List.set_cons_zero, List.set_cons_succ, i64_w, i32_w]
                                            rfl
                                          refine pure_ (i := 5) (N := some 24) (v := ?_) (a' := ?_) #[true, true, true, true, true, true, false, false, false, false, false, false, false, false, false, false, false, false, false, false, false, false, false] rfl rfl (any_of HT_.out (by kernel_rfl)) (fun _ _ _ h => h) (Or.inl ⟨by rfl, ?_⟩) ?_ ?_
                                          rotate_left
                                          · intro w'
                                            go_simp
                                            (try simp only [hzw_, hz_])
                                            with_reducible rfl
                                          rotate_left
                                          · simp only [Act.put, List.setIfInBounds_toArray, List.set_cons_zero, List.set_cons_succ, i64_w, i32_w]
                                            rfl
                                          refine pure_ (i := 6) (N := some 25) (v := ?_) (a' := ?_) #[true, true, true, true, true, true, true, false, false, false, false, false, false, false, false, false, false, false, false, false, false, false, false] rfl rfl (any_of HT_.out (by kernel_rfl)) (fun _ _ _ h => h) (Or.inl ⟨by rfl, ?_⟩) ?_ ?_
                                          rotate_left
                                          · intro w'
                                            go_simp
                                            (try simp only [hzw_, hz_])
                                            with_reducible rfl
                                          rotate_left
                                          · simp only [Act.put, List.setIfInBounds_toArray, List.set_cons_zero, List.set_cons_succ, i64_w, i32_w]
                                            rfl
                                          refine pure_ (i := 7) (N := some 26) (v := ?_) (a' := ?_) #[true, true, true, true, true, true, true, true, false, false, false, false, false, false, false, false, false, false, false, false, false, false, false] rfl rfl (any_of HT_.out (by kernel_rfl)) (fun _ _ _ h => h) (Or.inl ⟨by rfl, ?_⟩) ?_ ?_
                                          rotate_left
                                          · intro w'
                                            go_simp
                                            (try simp only [hzw_, hz_])
                                            with_reducible rfl
                                          rotate_left
                                          · simp only [Act.put, List.setIfInBounds_toArray, List.set_cons_zero, List.set_cons_succ, i64_w, i32_w]
                                            rfl
                                          refine pure_ (i := 10) (N := some 29) (v := ?_) (a' := ?_) #[true, true, true, true, true, true, true, true, false, false, true, false, false, false, false, false, false, false, false, false, false, false, false] rfl rfl (any_of HT_.out (by kernel_rfl)) (fun _ _ _ h => h) (Or.inl ⟨by rfl, ?_⟩) ?_ ?_
                                          rotate_left
                                          · intro w'
                                            go_simp
                                            (try simp only [hzw_, hz_])
                                            with_reducible rfl
                                          rotate_left
                                          · simp only [Act.put, List.setIfInBounds_toArray, List.set_cons_zero, List.set_cons_succ, i64_w, i32_w]
                                            rfl
                                          refine pure_ (i := 14) (N := some 33) (v := ?_) (a' := ?_) #[true, true, true, true, true, true, true, true, false, false, true, false, false, false, true, false, false, false, false, false, false, false, false] rfl rfl (any_of HT_.out (by kernel_rfl)) (fun _ _ _ h => h) (Or.inl ⟨by rfl, ?_⟩) ?_ ?_
                                          rotate_left
                                          · intro w'
                                            go_simp
                                            (try simp only [hzw_, hz_])
                                            with_reducible rfl
                                          rotate_left
                                          · simp only [Act.put, List.setIfInBounds_toArray, List.set_cons_zero, List.set_cons_succ, i64_w, i32_w]
                                            rfl
                                          refine pure_ (i := 15) (N := some 34) (v := ?_) (a' := ?_) #[true, true, true, true, true, true, true, true, false, false, true, false, false, false, true, true, false, false, false, false, false, false, false] rfl rfl (any_of HT_.out (by kernel_rfl)) (fun _ _ _ h => h) (Or.inl ⟨by rfl, ?_⟩) ?_ ?_
                                          rotate_left
                                          · intro w'
                                            go_simp
                                            (try simp only [hzw_, hz_])
                                            with_reducible rfl
                                          rotate_left
                                          · simp only [Act.put, List.setIfInBounds_toArray, List.set_cons_zero, List.set_cons_succ, i64_w, i32_w]
                                            rfl
                                          refine pure_ (i := 16) (N := some 35) (v := ?_) (a' := ?_) #[true, true, true, true, true, true, true, true, false, false, true, false, false, false, true, true, true, false, false, false, false, false, false] rfl rfl (any_of HT_.out (by kernel_rfl)) (fun _ _ _ h => h) (Or.inl ⟨by rfl, ?_⟩) ?_ ?_
                                          rotate_left
                                          · intro w'
                                            go_simp
                                            (try simp only [hzw_, hz_])
                                            with_reducible rfl
                                          rotate_left
                                          · simp only [Act.put, List.setIfInBounds_toArray, List.set_cons_zero, List.set_cons_succ, i64_w, i32_w]
                                            rfl
                                          refine take_ (i := 8) (N := some 27) (v := ?_) (a' := ?_) #[true, true, true, true, true, true, true, true, true, false, true, false, false, false, true, true, true, false, false, false, false, false, false] rfl rfl (take_ofW HT_.out HW_.out (by kernel_rfl)) (fun _ _ _ h => h) (Or.inl ⟨by rfl, ?_⟩) hHeld ?_ ?_
                                          rotate_left
                                          · rintro w' ⟨s0, s1, s2, s3⟩
                                            go_simp
                                            (try simp only [hzw_, hz_])
                                            with_reducible rfl
                                          rotate_left
                                          · simp only [Act.put, List.setIfInBounds_toArray, List.set_cons_zero, List.set_cons_succ, i64_w, i32_w]
                                            rfl
                                          refine pure_ (i := 9) (N := some 28) (v := ?_) (a' := ?_) #[true, true, true, true, true, true, true, true, true, true, true, false, false, false, true, true, true, false, false, false, false, false, false] rfl rfl (any_of HT_.out (by kernel_rfl)) (fun _ _ _ h => h) (Or.inl ⟨by rfl, ?_⟩) ?_ ?_
                                          rotate_left
                                          · intro w'
                                            go_simp
                                            (try simp only [hzw_, hz_])
                                            with_reducible rfl
                                          rotate_left
                                          · simp only [Act.put, List.setIfInBounds_toArray, List.set_cons_zero, List.set_cons_succ, i64_w, i32_w]
                                            rfl
                                          refine take_ (i := 11) (N := some 30) (v := ?_) (a' := ?_) #[true, true, true, true, true, true, true, true, true, true, true, true, false, false, true, true, true, false, false, false, false, false, false] rfl rfl (take_ofW HT_.out HW_.out (by kernel_rfl)) (fun _ _ _ h => h) (Or.inl ⟨by rfl, ?_⟩) hHeld ?_ ?_
                                          rotate_left
                                          · rintro w' ⟨s0, s1, s2, s3⟩
                                            go_simp
                                            (try simp only [hzw_, hz_])
                                            with_reducible rfl
                                          rotate_left
                                          · simp only [Act.put, List.setIfInBounds_toArray, List.set_cons_zero, List.set_cons_succ, i64_w, i32_w]
                                            rfl
                                          refine take_ (i := 17) (N := some 36) (v := ?_) (a' := ?_) #[true, true, true, true, true, true, true, true, true, true, true, true, false, false, true, true, true, true, false, false, false, false, false] rfl rfl (take_ofW HT_.out HW_.out (by kernel_rfl)) (fun _ _ _ h => h) (Or.inl ⟨by rfl, ?_⟩) hHeld ?_ ?_
                                          rotate_left
                                          · rintro w' ⟨s0, s1, s2, s3⟩
                                            go_simp
                                            (try simp only [hzw_, hz_])
                                            with_reducible rfl
                                          rotate_left
                                          · simp only [Act.put, List.setIfInBounds_toArray, List.set_cons_zero, List.set_cons_succ, i64_w, i32_w]
                                            rfl
                                          refine one_ (i := 12) (N := some 31) #[true, true, true, true, true, true, true, true, true, true, true, true, true, false, true, true, true, true, false, false, false, false, false] rfl rfl (one_of HT_.out (by kernel_rfl)) (by decide) (fun K hK => ?_)
                                          refine goes_ Tryd.func29 (by kernel_rfl) rfl #[.int .i64 ((rd_T34 l0 x10_1).f0)] (by rfl) rfl rfl qG ?_
                                          with_reducible refine (impl_signOf.calls ((rd_T34 l0 x10_1).f0) t245 _ A65.out).mono ?_
                                          rintro e w79 ⟨rfl, hb⟩
                                          have HS2_ := (hb.cell (World.block_lt_of_cell? _ _ (hHeld.2.2.1))).trans (hHeld.2.2.1)
                                          have HS3_ := (hb.cell (World.block_lt_of_cell? _ _ (hHeld.2.2.2))).trans (hHeld.2.2.2)
                                          refine ⟨_, rfl, ?_⟩
                                          have n0_ := Aside0.mk (Kd.R_below (qR HO243.out) hb)
                                          have n1_ := Aside0.mk (blk_below (g := gb221) (o := .cells #[.int .i64 ((rd_T34 l0 x10_1).f0), .int .u64 ((rd_T34 l0 x10_1).f1)] 34 (0, 0)) (qK BK221.out) hb)
                                          have n2_ := Aside0.mk (below_step (qB) hb)
                                          clear HO243
                                          clear BK221
                                          clear HB
                                          have HO243 := n0_
                                          have BK221 := n1_
                                          have HB := n2_
                                          clear n0_ n1_ n2_
                                          (try clear hb)
                                          (try clear hb2)
                                          (try clear hk)
                                          (try clear hi)
                                          refine hK.out _ _ ⟨(blk_cell BK221.out 0).trans rfl, (blk_cell BK221.out 1).trans rfl, HS2_, HS3_⟩ (fun hHeld => ?_)
                                          clear hK K
                                          refine norm_ (a' := ?_) ?_ ?_
                                          rotate_left
                                          · show Act.put _ (some 31) _ = _
                                            simp only [Act.put, List.setIfInBounds_toArray, List.set_cons_zero, List.set_cons_succ, i64_w, i32_w]
                                            rfl
                                          refine pure_ (i := 13) (N := some 32) (v := ?_) (a' := ?_) #[true, true, true, true, true, true, true, true, true, true, true, true, true, true, true, true, true, true, false, false, false, false, false] rfl rfl (any_of HT_.out (by kernel_rfl)) (fun _ _ _ h => h) (Or.inl ⟨by rfl, ?_⟩) ?_ ?_
                                          rotate_left
                                          · intro w'
                                            go_simp
                                            (try simp only [hzw_, hz_])
                                            with_reducible rfl
                                          rotate_left
                                          · simp only [Act.put, List.setIfInBounds_toArray, List.set_cons_zero, List.set_cons_succ, i64_w, i32_w]
                                            rfl
                                          refine pure_ (i := 18) (N := some 37) (v := ?_) (a' := ?_) #[true, true, true, true, true, true, true, true, true, true, true, true, true, true, true, true, true, true, true, false, false, false, false] rfl rfl (any_of HT_.out (by kernel_rfl)) (fun _ _ _ h => h) (Or.inl ⟨by rfl, ?_⟩) ?_ ?_
                                          rotate_left
                                          · intro w'
                                            go_simp
                                            (try simp only [hzw_, hz_])
                                            with_reducible rfl
                                          rotate_left
                                          · simp only [Act.put, List.setIfInBounds_toArray, List.set_cons_zero, List.set_cons_succ, i64_w, i32_w]
                                            rfl
                                          refine pure_ (i := 19) (N := some 38) (v := ?_) (a' := ?_) #[true, true, true, true, true, true, true, true, true, true, true, true, true, true, true, true, true, true, true, true, false, false, false] rfl rfl (any_of HT_.out (by kernel_rfl)) (fun _ _ _ h => h) (Or.inl ⟨by rfl, ?_⟩) ?_ ?_
                                          rotate_left
                                          · intro w'
                                            go_simp
                                            (try simp only [hzw_, hz_])
                                            with_reducible rfl
                                          rotate_left
                                          · simp only [Act.put, List.setIfInBounds_toArray, List.set_cons_zero, List.set_cons_succ, i64_w, i32_w]
                                            rfl
                                          refine last_ (i := 20) (N := some 39) #[true, true, true, true, true, true, true, true, true, true, true, true, true, true, true, true, true, true, true, true, true, false, false] rfl rfl (one_of HT_.out (by kernel_rfl)) (by decide) (fun K hK => ?_)
                                          refine value_ (w1 := ?_) (v := ?_) (by rfl) rfl ?_ ?_
                                          rotate_left 2
                                          · go_simp
                                            constructor
                                            · rfl
                                            · rfl
                                          refine hK.out _ _ ?_
                                          clear hK K
                                          refine norm_ (a' := ?_) ?_ ?_
                                          rotate_left
                                          · show Act.put _ (some 39) _ = _
                                            simp only [Act.put, List.setIfInBounds_toArray, List.set_cons_zero, List.set_cons_succ, i64_w, i32_w]
                                            rfl
                                          refine last_ (i := 21) (N := some 40) #[true, true, true, true, true, true, true, true, true, true, true, true, true, true, true, true, true, true, true, true, true, true, false] rfl rfl (one_of HT_.out (by kernel_rfl)) (by decide) (fun K hK => ?_)
                                          refine Kd.R_append_step Kd.string (w0 := w) w.heap.size (by rfl) (.tmp 22) (.tmp 39) 49 9 (.string ⟨#[]⟩) 16 rfl Tryd.underlying49 info9 rfl (by decide) (by omega) (.slice (some ad244) y241.length co75) y241 (((((⟨#[40]⟩ : ByteArray) ++ (rdOf ByteArray.empty x3_1 (ji60))) ++ t245) ++ (rdOf ByteArray.empty x3_1 (ji67))) ++ (⟨#[41]⟩ : ByteArray)) [.string (((((⟨#[40]⟩ : ByteArray) ++ (rdOf ByteArray.empty x3_1 (ji60))) ++ t245) ++ (rdOf ByteArray.empty x3_1 (ji67))) ++ (⟨#[41]⟩ : ByteArray))] (fun _ => True) (fun _ => False) rfl rfl ?aP (fun _ hk => hk.elim) ?aF ?aO ?aB ?aS ?aL ?_
                                          (case aP => exact rfl)
                                          (case aB => exact (qB))
                                          (case aF => exact (fun _ _ => trivial))
                                          (case aO => exact (qR HO243.out))
                                          (case aS => exact (below_size (qB)))
                                          (case aL => have := LMc72.out; omega)
                                          intro v248 w80 ho hb hg hat
                                          rw [← Ny247.out] at ho
                                          have n0_ := Aside0.mk (blk_grown (g := gb221) (o := .cells #[.int .i64 ((rd_T34 l0 x10_1).f0), .int .u64 ((rd_T34 l0 x10_1).f1)] 34 (0, 0)) (qK BK221.out) hg (Kd.R_ne HO243.out BK221.out (by decide)))
                                          have n1_ := Aside0.mk (hb)
                                          have n2_ := Aside0.mk (ho)
                                          clear BK221
                                          clear HB
                                          clear HO243
                                          have BK221 := n0_
                                          have HB := n1_
                                          have HO249 := n2_
                                          clear n0_ n1_ n2_
                                          clear ho hb hg hat
                                          refine hK.out _ _ ?_
                                          clear hK K
                                          refine norm_ (a' := ?_) ?_ ?_
                                          rotate_left
                                          · show Act.put _ (some 40) _ = _
                                            simp only [Act.put, List.setIfInBounds_toArray, List.set_cons_zero, List.set_cons_succ, i64_w, i32_w]
                                            rfl
                                          refine pure_ (i := 22) (N := some 3) (v := ?_) (a' := ?_) #[true, true, true, true, true, true, true, true, true, true, true, true, true, true, true, true, true, true, true, true, true, true, true] rfl rfl (any_of HT_.out (by kernel_rfl)) (fun _ _ _ h => h) (Or.inl ⟨by rfl, ?_⟩) ?_ ?_
                                          rotate_left
                                          · intro w'
                                            go_simp
                                            (try simp only [hzw_, hz_])
                                            with_reducible rfl
                                          rotate_left
                                          · simp only [Act.put, List.setIfInBounds_toArray, List.set_cons_zero, List.set_cons_succ, i64_w, i32_w]
                                            rfl
                                          refine done_ (done_of HT_.out (by kernel_rfl)) ?_
                                          try go_wp2
                                          go_roundg k1
                                          case measure => have := HK1.out; omega
                                          case rel => exact ⟨(y247), (wrap64 (x10_1 + 1)), qS, H', ⟨by have := HK1.out; omega⟩, ⟨qR HO249.out⟩, ⟨qB⟩⟩
                                        · rw [if_neg c72] at H
                                          exact absurd H (by simp)
                                      · rw [if_neg c71] at H
                                        exact absurd H (by simp)
                                    · rw [if_neg c70] at H
                                      exact absurd H (by simp)
                                  · rw [if_neg c69] at H
                                    exact absurd H (by simp)
                                · rw [if_neg c68] at H
                                  exact absurd H (by simp)
                              · rw [if_neg c66] at H
                                exact absurd H (by simp)
                            · rw [if_neg c64] at H
                              exact absurd H (by simp)
                          · rw [if_neg c63] at H
                            exact absurd H (by simp)
                        · rw [if_neg c62] at H
                          exact absurd H (by simp)
                      · rw [if_neg c61] at H
                        exact absurd H (by simp)
          · rw [if_neg c6] at H
            exact absurd H (by simp)
        · rw [if_neg c5] at H
          exact absurd H (by simp)
      · rw [if_neg c4] at H
        have c4b0 : decide (x10_1 < (l0.length : Int)) = false := decide_eq_false c4
        clear c4
        by_cases c81 : 0 < (x3_1.length : Int)
        · rw [if_pos c81] at H
          have c81b0 : decide (0 < (x3_1.length : Int)) = true := decide_eq_true c81
          have c81b1 : decide (0 < x3_1.length) = true := decide_eq_true (by omega)
          clear c81
          obtain rfl := Option.some.inj H
          obtain ⟨Ao82, co82, eo82⟩ := Kd.R_slice HO_3.out
          subst eo82
          have p219 : 0 ≤ (0 : Int) := (by omega)
          have q219 : 0 < (x3_1.length : Int) := qD
          obtain ⟨ad219, e219, hx219_0⟩ := Kd.at_string (Kd.R_reads' HO_3.out).2.2 0 p219 q219
          cases e219
          have qi219 : (0 < x3_1.length) = True := eq_true (by omega)
          (try rw [show ((0 : Int)).toNat = 0 from rfl] at hx219_0)
          (try rw [Addr.add_zero'] at hx219_0)
          replace p219 := eq_true p219
          replace q219 := eq_true q219
          go_wp2
          go_ret
          exact ⟨qE, qB⟩
        · rw [if_neg c81] at H
          exact absurd H (by simp)

end Go.Proofs.YtckdgmbmjfhodaaDoor.X
