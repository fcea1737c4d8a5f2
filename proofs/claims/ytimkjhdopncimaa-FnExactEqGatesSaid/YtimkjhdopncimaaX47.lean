/- Go functions as Lean functions, each with the proof that its call comes to just its answer. Conditions: the arguments are of their kinds. -/
import Derived.Test.YtimkjhdopncimaaX0
import Derived.Test.YtimkjhdopncimaaX4
import Derived.Test.YtimkjhdopncimaaX25
import Derived.Test.YtimkjhdopncimaaX28
import Derived.Test.YtimkjhdopncimaaX33
import Derived.StillTailTactics
import Derived.Test.YtimkjhdopncimaaX8
namespace Go.Proofs.Ytimkjhdopncimaa.X
open Go.RowKit Go.Proofs.YtimkjhdopncimaaW.PrintWords Go.Proofs.YtimkjhdopncimaaW.PrintLast Go.Proofs.YtimkjhdopncimaaW.PrintMore
attribute [local go_sem] max2_int min2_int max_two min_two max_three min_three max_four min_four   -- for this text's walks alone
set_option linter.unusedVariables false
set_option linter.unusedSimpArgs false

-- HAND
/-! ### spec_EqGates: function 38 -/
-- IMPORT Derived.StillTailTactics
/-- A circuit with a comparison put behind. -/
def spec_EqGates.f (k : Nat) (a0_0 : Int) (l0_1 : List S59) (l0_2 : List Int) (l1 l2 : List Int) : Option (Int × List S59 × List Int × Int × Bool) :=
 (spec_l4Lists.f k a0_0 l0_1 l0_2 l1 l2).bind fun t1 => if t1 = true then (spec_l4Own.f a0_0 l0_1 l0_2).bind fun c => if 0 ≤ c.1 ∧ c.1 ≤ 1000000 ∧ c.2.1.length ≤ 900000 ∧ l1.length ≤ 10000 ∧ l2.length = l1.length then (spec_GoodCircuit.f k c.1 (eqN c.1 l1 l2 c.2.1 l1.length).1 c.2.2).bind fun t4 => if t4 = true then some (c.1, (eqN c.1 l1 l2 c.2.1 l1.length).1, c.2.2, (eqN c.1 l1 l2 c.2.1 l1.length).2, true) else some (0, [], [], 0, false) else none else some (0, [], [], 0, false)
theorem spec_EqGates.mono : ∀ a0 a1 a2 a3 a4 k, LeO (spec_EqGates.f k a0 a1 a2 a3 a4) (spec_EqGates.f (k + 1) a0 a1 a2 a3 a4) := by
 intro a0 a1 a2 a3 a4 k
 unfold spec_EqGates.f
 refine LeO.bind (spec_l4Lists.mono _ _ _ _ _ _) (fun _ => LeO.ite (LeO.bind (LeO.refl _) (fun _ => LeO.ite (LeO.bind (spec_GoodCircuit.mono _ _ _ _) (fun _ => LeO.refl _)) (LeO.refl _))) (LeO.refl _))
set_option maxHeartbeats 32000000 in
set_option maxRecDepth 100000 in
theorem spec_EqGates.calls (k : Nat) (a0_0 : Int) (A0_1 : Option Addr) (c0_1 : Nat) (l0_1 : List S59) (A0_2 : Option Addr) (c0_2 : Nat) (l0_2 : List Int) (A1 : Option Addr) (c1 : Nat) (l1 : List Int) (A2 : Option Addr) (c2 : Nat) (l2 : List Int) (r1 : Int) (r2 : List S59) (r3 : List Int) (r4 : Int) (r5 : Bool) (w : World) (hr0_1 : Kd.C k59 w A0_1 l0_1.length l0_1) (hc0_1 : l0_1.length ≤ c0_1) (hr0_2 : Kd.C (Kd.int .i64) w A0_2 l0_2.length l0_2) (hc0_2 : l0_2.length ≤ c0_2) (hr1 : Kd.C (Kd.int .i64) w A1 l1.length l1) (hc1 : l1.length ≤ c1) (hr2 : Kd.C (Kd.int .i64) w A2 l2.length l2) (hc2 : l2.length ≤ c2) (h : spec_EqGates.f k a0_0 l0_1 l0_2 l1 l2 = some (r1, r2, r3, r4, r5)) :
  Calls Try.prog 38 #[.agg #[.int .i64 a0_0, .slice A0_1 l0_1.length c0_1, .slice A0_2 l0_2.length c0_2], .slice A1 l1.length c1, .slice A2 l2.length c2] w fun e w' => ∃ v1_ v2_ : Value, e = .returned (.tuple #[.agg #[.int .i64 r1, v1_, v2_], .int .i64 r4, .bool r5]) ∧ Kd.R k59 59 w' w.heap.size (fun _ => True) v1_ r2 ∧ Kd.R (Kd.int .i64) 3 w' w.heap.size (fun _ => True) v2_ r3 ∧ Below w.heap.size w w' := by
 have hu1 := Try.underlying30
 have hu2 := Try.underlying23
 have HR0_1 := Aside0.mk hr0_1
 have HC0_1 := Aside0.mk hc0_1
 have HR0_2 := Aside0.mk hr0_2
 have HC0_2 := Aside0.mk hc0_2
 have HR1 := Aside0.mk hr1
 have HC1 := Aside0.mk hc1
 have HR2 := Aside0.mk hr2
 have HC2 := Aside0.mk hc2
 clear hr0_1 hc0_1 hr0_2 hc0_2 hr1 hc1 hr2 hc2
 have HB := Aside0.mk (Below.refl w.heap.size w)
 unfold spec_EqGates.f at h
 obtain ⟨t1, h1, h⟩ := Option.bind_eq_some_iff.mp h
 have A1_ := Aside0.mk h1
 clear h1
 cases t1 with
 | false =>
  simp only [Bool.false_eq_true, if_false, Option.some.injEq, Prod.mk.injEq] at h
  obtain ⟨rfl, rfl, rfl, rfl, rfl⟩ := h
  go_enter Try.func38, Try.ntmps38
  go_wp2_with (first | ((with_reducible refine gate_dst (N := 3) rfl ?_); refine box_event ?hg (N := 3) ?hd (cs := #[.int .i64 a0_0, .slice A0_1 l0_1.length c0_1, .slice A0_2 l0_2.length c0_2]) (t := 30) ?hr ?_; (case hd => rfl); (case hg => rfl); (case hr => first | (go_simp; done) | (go_simp; rfl)); intro gc hg_ w1 hbox hb; have n_ := Aside0.mk (below_step (qB) hb); clear HB; have HB := n_; clear n_; have BC := Aside0.mk hbox; clear hbox hb hg_) | ((with_reducible refine gate_dst (N := 6) rfl ?_); refine box_event ?hg (N := 6) ?hd (cs := #[.int .i64 0, .slice none 0 0, .slice none 0 0]) (t := 30) ?hr ?_; (case hd => rfl); (case hg => rfl); (case hr => first | (go_simp; done) | (go_simp; rfl)); intro gr hg_ w2 hbox hb; have hcr : gc ≠ gr := (by rw [hg_]; exact Nat.ne_of_lt (blk_lt BC.out)); have GR := Aside0.mk ((by rw [hg_]; exact below_size (qB)) : w.heap.size ≤ gr); have n_ := Aside0.mk (blk_below (g := gc) (o := .cells #[.int .i64 a0_0, .slice A0_1 l0_1.length c0_1, .slice A0_2 l0_2.length c0_2] 30 (0, 0)) (qK BC.out) hb); clear BC; have BC := n_; clear n_; have BR := Aside0.mk hbox; have n_ := Aside0.mk (below_step (qB) hb); clear HB; have HB := n_; clear n_; have hz0 : w2.cell? ⟨gc, 0, none⟩ = some (.int .i64 a0_0) := (blk_cell BC.out 0).trans rfl; have hz1 : w2.cell? ⟨gc, 1, none⟩ = some (.slice A0_1 l0_1.length c0_1) := (blk_cell BC.out 1).trans rfl; have hz2 : w2.cell? ⟨gc, 2, none⟩ = some (.slice A0_2 l0_2.length c0_2) := (blk_cell BC.out 2).trans rfl; clear hbox hb hg_) | (go_at_call 58; (with_reducible refine (spec_l4Lists.calls k a0_0 _ _ l0_1 _ _ l0_2 _ _ l1 _ _ l2 false _ ?side1 ?side2 ?side3 ?side4 ?side5 ?side6 ?side7 ?side8 A1_.out).mono ?_); (case side1 => exact qC (Kd.C_below HR0_1.out HB.out)); (case side2 => exact HC0_1.out); (case side3 => exact qC (Kd.C_below HR0_2.out HB.out)); (case side4 => exact HC0_2.out); (case side5 => exact qC (Kd.C_below HR1.out HB.out)); (case side6 => exact HC1.out); (case side7 => exact qC (Kd.C_below HR2.out HB.out)); (case side8 => exact HC2.out); rintro e w5 ⟨rfl, hb⟩; have n1_ := Aside0.mk (blk_below (g := gc) (o := .cells #[.int .i64 a0_0, .slice A0_1 l0_1.length c0_1, .slice A0_2 l0_2.length c0_2] 30 (0, 0)) (qK BC.out) hb); have n2_ := Aside0.mk (blk_below (g := gr) (o := .cells #[.int .i64 0, .slice none 0 0, .slice none 0 0] 30 (0, 0)) (qK BR.out) hb); have n3_ := Aside0.mk (below_step (qB) hb); clear BC BR HB; have BC := n1_; have BR := n2_; have HB := n3_; clear n1_ n2_ n3_ hb; have hz0 : w5.cell? ⟨gc, 0, none⟩ = some (.int .i64 a0_0) := (blk_cell BC.out 0).trans rfl; have hz1 : w5.cell? ⟨gc, 1, none⟩ = some (.slice A0_1 l0_1.length c0_1) := (blk_cell BC.out 1).trans rfl; have hz2 : w5.cell? ⟨gc, 2, none⟩ = some (.slice A0_2 l0_2.length c0_2) := (blk_cell BC.out 2).trans rfl; have hy0 : w5.cell? ⟨gr, 0, none⟩ = some (.int .i64 0) := (blk_cell BR.out 0).trans rfl; have hy1 : w5.cell? ⟨gr, 1, none⟩ = some (.slice none 0 0) := (blk_cell BR.out 1).trans rfl; have hy2 : w5.cell? ⟨gr, 2, none⟩ = some (.slice none 0 0) := (blk_cell BR.out 2).trans rfl; have hyf0 := blk_frozen BR.out 0; have hyf1 := blk_frozen BR.out 1; have hyf2 := blk_frozen BR.out 2))
  refine bodyPost_ret (v := .tuple #[.agg #[.int .i64 0, .slice none 0 0, .slice none 0 0], .int .i64 0, .bool false]) (by simp [results, Try.results38, go_sem, hy0, hy1, hy2]) rfl ⟨.slice none 0 0, .slice none 0 0, rfl, Kd.R_nil _ _ _ _ _, Kd.R_nil _ _ _ _ _, qB⟩
 | true =>
  simp only [if_true] at h
  obtain ⟨⟨q1, q2, q3⟩, h4, h⟩ := Option.bind_eq_some_iff.mp h
  have A4_ := Aside0.mk h4
  clear h4
  dsimp only at h
  split at h
  ·rename_i hc
   obtain ⟨hi0, hi1, hgl, hal, hbl⟩ := hc
   have HBL := Aside0.mk hbl
   obtain ⟨ga, hga⟩ : ∃ q, (eqN q1 l1 l2 q2 l1.length).1 = q := ⟨_, rfl⟩
   obtain ⟨va, hva⟩ : ∃ q, (eqN q1 l1 l2 q2 l1.length).2 = q := ⟨_, rfl⟩
   rw [hga, hva] at h
   have HGA := Aside0.mk hga
   have HVA := Aside0.mk hva
   obtain ⟨t4, h5, h⟩ := Option.bind_eq_some_iff.mp h
   have A5_ := Aside0.mk h5
   clear h5 hga hva hbl
   go_enter Try.func38, Try.ntmps38
   go_upto_region 4 with (first | ((with_reducible refine gate_dst (N := 3) rfl ?_); refine box_event ?hg (N := 3) ?hd (cs := #[.int .i64 a0_0, .slice A0_1 l0_1.length c0_1, .slice A0_2 l0_2.length c0_2]) (t := 30) ?hr ?_; (case hd => rfl); (case hg => rfl); (case hr => first | (go_simp; done) | (go_simp; rfl)); intro gc hg_ w1 hbox hb; have n_ := Aside0.mk (below_step (qB) hb); clear HB; have HB := n_; clear n_; have BC := Aside0.mk hbox; clear hbox hb hg_) | ((with_reducible refine gate_dst (N := 6) rfl ?_); refine box_event ?hg (N := 6) ?hd (cs := #[.int .i64 0, .slice none 0 0, .slice none 0 0]) (t := 30) ?hr ?_; (case hd => rfl); (case hg => rfl); (case hr => first | (go_simp; done) | (go_simp; rfl)); intro gr hg_ w2 hbox hb; have hcr : gc ≠ gr := (by rw [hg_]; exact Nat.ne_of_lt (blk_lt BC.out)); have GR := Aside0.mk ((by rw [hg_]; exact below_size (qB)) : w.heap.size ≤ gr); have n_ := Aside0.mk (blk_below (g := gc) (o := .cells #[.int .i64 a0_0, .slice A0_1 l0_1.length c0_1, .slice A0_2 l0_2.length c0_2] 30 (0, 0)) (qK BC.out) hb); clear BC; have BC := n_; clear n_; have BR := Aside0.mk hbox; have n_ := Aside0.mk (below_step (qB) hb); clear HB; have HB := n_; clear n_; have hz0 : w2.cell? ⟨gc, 0, none⟩ = some (.int .i64 a0_0) := (blk_cell BC.out 0).trans rfl; have hz1 : w2.cell? ⟨gc, 1, none⟩ = some (.slice A0_1 l0_1.length c0_1) := (blk_cell BC.out 1).trans rfl; have hz2 : w2.cell? ⟨gc, 2, none⟩ = some (.slice A0_2 l0_2.length c0_2) := (blk_cell BC.out 2).trans rfl; clear hbox hb hg_) | (go_at_call 58; (with_reducible refine (spec_l4Lists.calls k a0_0 _ _ l0_1 _ _ l0_2 _ _ l1 _ _ l2 true _ ?side1 ?side2 ?side3 ?side4 ?side5 ?side6 ?side7 ?side8 A1_.out).mono ?_); (case side1 => exact qC (Kd.C_below HR0_1.out HB.out)); (case side2 => exact HC0_1.out); (case side3 => exact qC (Kd.C_below HR0_2.out HB.out)); (case side4 => exact HC0_2.out); (case side5 => exact qC (Kd.C_below HR1.out HB.out)); (case side6 => exact HC1.out); (case side7 => exact qC (Kd.C_below HR2.out HB.out)); (case side8 => exact HC2.out); rintro e w5 ⟨rfl, hb⟩; have n1_ := Aside0.mk (blk_below (g := gc) (o := .cells #[.int .i64 a0_0, .slice A0_1 l0_1.length c0_1, .slice A0_2 l0_2.length c0_2] 30 (0, 0)) (qK BC.out) hb); have n2_ := Aside0.mk (blk_below (g := gr) (o := .cells #[.int .i64 0, .slice none 0 0, .slice none 0 0] 30 (0, 0)) (qK BR.out) hb); have n3_ := Aside0.mk (below_step (qB) hb); clear BC BR HB; have BC := n1_; have BR := n2_; have HB := n3_; clear n1_ n2_ n3_ hb; have hz0 : w5.cell? ⟨gc, 0, none⟩ = some (.int .i64 a0_0) := (blk_cell BC.out 0).trans rfl; have hz1 : w5.cell? ⟨gc, 1, none⟩ = some (.slice A0_1 l0_1.length c0_1) := (blk_cell BC.out 1).trans rfl; have hz2 : w5.cell? ⟨gc, 2, none⟩ = some (.slice A0_2 l0_2.length c0_2) := (blk_cell BC.out 2).trans rfl) | (go_at_call 59; (with_reducible refine (spec_l4Own.calls a0_0 _ _ l0_1 _ _ l0_2 q1 q2 q3 _ ?side1 ?side2 ?side3 ?side4 A4_.out).mono ?_); (case side1 => exact qC (Kd.C_below HR0_1.out HB.out)); (case side2 => exact HC0_1.out); (case side3 => exact qC (Kd.C_below HR0_2.out HB.out)); (case side4 => exact HC0_2.out); rintro e w8 ⟨v1_, v2_, rfl, hv1, hv2, hb⟩; obtain ⟨Ag, cg, rfl⟩ := Kd.R_slice hv1; obtain ⟨Ao, co, rfl⟩ := Kd.R_slice hv2; have V1 := Aside0.mk (Kd.R_lower hv1 (below_size (qB))); have V2 := Aside0.mk (R_till (Kd.R_lower hv2 (below_size (qB)))); clear hv1 hv2; have n1_ := Aside0.mk (blk_below (g := gc) (o := .cells #[.int .i64 a0_0, .slice A0_1 l0_1.length c0_1, .slice A0_2 l0_2.length c0_2] 30 (0, 0)) (qK BC.out) hb); have n2_ := Aside0.mk (blk_below (g := gr) (o := .cells #[.int .i64 0, .slice none 0 0, .slice none 0 0] 30 (0, 0)) (qK BR.out) hb); have n3_ := Aside0.mk (below_step (qB) hb); clear BC BR HB; have BC := n1_; have BR := n2_; have HB := n3_; clear n1_ n2_ n3_ hb; have hz0 : w8.cell? ⟨gc, 0, none⟩ = some (.int .i64 a0_0) := (blk_cell BC.out 0).trans rfl; have hz1 : w8.cell? ⟨gc, 1, none⟩ = some (.slice A0_1 l0_1.length c0_1) := (blk_cell BC.out 1).trans rfl; have hz2 : w8.cell? ⟨gc, 2, none⟩ = some (.slice A0_2 l0_2.length c0_2) := (blk_cell BC.out 2).trans rfl) | ((with_reducible refine gate_dst (N := 20) rfl ?_); refine box_event ?hg (N := 20) ?hd (cs := #[.int .i64 q1, .slice Ag q2.length cg, .slice Ao q3.length co]) (t := 75) ?hr ?_; (case hd => rfl); (case hg => rfl); (case hr => first | (go_simp; done) | (go_simp; rfl)); intro G hg_ w9 hbox hb; have hgG : gr ≠ G := (by rw [hg_]; exact Nat.ne_of_lt (blk_lt BR.out)); have hVG := Aside0.mk ((by rw [hg_]; exact Nat.le_refl _) : w8.heap.size ≤ G); have GG := Aside0.mk ((by rw [hg_]; exact below_size (qB)) : w.heap.size ≤ G); have n1_ := Aside0.mk (blk_below (g := gr) (o := .cells #[.int .i64 0, .slice none 0 0, .slice none 0 0] 30 (0, 0)) (qK BR.out) hb); have n2_ := Aside0.mk (below_step (qB) hb); have n3_ := Aside0.mk (Kd.R_below V1.out hb); have n4_ := Aside0.mk (Kd.R_below V2.out hb); clear BC BR HB V1 V2; have BR := n1_; have HB := n2_; have V1 := n3_; have V2 := n4_; have BG := Aside0.mk hbox; clear n1_ n2_ n3_ n4_; clear hbox hb hg_))
   obtain ⟨w12, hw12⟩ : ∃ q, q = w9 := ⟨_, rfl⟩
   rw [← hw12] at BG BR V1 V2 HB ⊢
   clear hw12
   have B5 : Aside0 (Bd 75 G w.heap.size q1 (.slice Ao q3.length co) w12 q2) := ⟨⟨_, BG.out, V1.out⟩⟩
   clear BG V1
   cases t4 with
   | false =>
    simp only [Bool.false_eq_true, if_false, Option.some.injEq, Prod.mk.injEq] at h
    obtain ⟨rfl, rfl, rfl, rfl, rfl⟩ := h
    go_wp2_with (first | (go_at_call 68; refine (spec_l4Build_eq.calls G w.heap.size q1 (.slice Ao q3.length co) q2 A1 A2 c1 c2 l1 l2 w12 HB.out.size B5.out (Fr.C_came (Kd.heap_int .i64) HR1.out HB.out GG.out (Nat.le_refl _)) (Fr.C_came (Kd.heap_int .i64) HR2.out HB.out GG.out (Nat.le_refl _)) hi0 hi1 hgl hal HBL.out).mono ?_; rintro e w13 ⟨he, hbd, hf⟩; rw [HVA.out] at he; subst he; rw [HGA.out] at hbd; obtain ⟨gv, hG9, hR9⟩ := hbd; obtain ⟨Ag2, cg2, rfl⟩ := Kd.R_slice hR9; have G6 := Aside0.mk hG9; have V6 := Aside0.mk hR9; have hO := hf.R V2.out (by decide) (fun k hk => Nat.ne_of_lt (Nat.lt_of_lt_of_le hk.2 hVG.out)); have O6 := Aside0.mk (Kd.R_mono (ok' := fun _ => True) hO (fun _ _ => trivial)); have R6 := Aside0.mk (hf.blk BR.out hgG (by decide)); have n_ := Aside0.mk (HB.out.trans (hf.below GG.out (Nat.le_refl _) HB.out.size)); clear HB; have HB := n_; clear n_ hG9 hR9 hf hO; have hj0 : w13.cell? ⟨G, 0, none⟩ = some (.int .i64 q1) := (blk_cell G6.out 0).trans rfl; have hj1 : w13.cell? ⟨G, 1, none⟩ = some (.slice Ag2 ga.length cg2) := (blk_cell G6.out 1).trans rfl; have hj2 : w13.cell? ⟨G, 2, none⟩ = some (.slice Ao q3.length co) := (blk_cell G6.out 2).trans rfl) | (go_at_call 12; refine (spec_GoodCircuit.calls k q1 _ cg2 ga _ co q3 false _ (Kd.R_reads' V6.out).2.2 (Kd.R_reads' V6.out).2.1 (Kd.R_reads' O6.out).2.2 (Kd.R_reads' O6.out).2.1 A5_.out).mono ?_; rintro e w14 ⟨rfl, hb⟩; have R8 := Aside0.mk (blk_below R6.out hb); have G8 := Aside0.mk (blk_below G6.out hb); have V8 := Aside0.mk (Kd.R_below V6.out hb); have O8 := Aside0.mk (Kd.R_below O6.out hb); have n_ := Aside0.mk (below_step HB.out hb); clear HB; have HB := n_; clear n_ hb; have hj0 : w14.cell? ⟨G, 0, none⟩ = some (.int .i64 q1) := (blk_cell G8.out 0).trans rfl; have hj1 : w14.cell? ⟨G, 1, none⟩ = some (.slice Ag2 ga.length cg2) := (blk_cell G8.out 1).trans rfl; have hj2 : w14.cell? ⟨G, 2, none⟩ = some (.slice Ao q3.length co) := (blk_cell G8.out 2).trans rfl; have hy0 : w14.cell? ⟨gr, 0, none⟩ = some (.int .i64 0) := (blk_cell R8.out 0).trans rfl; have hy1 : w14.cell? ⟨gr, 1, none⟩ = some (.slice none 0 0) := (blk_cell R8.out 1).trans rfl; have hy2 : w14.cell? ⟨gr, 2, none⟩ = some (.slice none 0 0) := (blk_cell R8.out 2).trans rfl; have hyf0 := blk_frozen R8.out 0; have hyf1 := blk_frozen R8.out 1; have hyf2 := blk_frozen R8.out 2))
    refine bodyPost_ret (v := .tuple #[.agg #[.int .i64 0, .slice none 0 0, .slice none 0 0], .int .i64 0, .bool false]) (by simp [results, Try.results38, go_sem, hy0, hy1, hy2]) rfl ⟨.slice none 0 0, .slice none 0 0, rfl, Kd.R_nil _ _ _ _ _, Kd.R_nil _ _ _ _ _, qB⟩
   | true =>
    simp only [if_true, Option.some.injEq, Prod.mk.injEq] at h
    obtain ⟨rfl, rfl, rfl, rfl, rfl⟩ := h
    go_wp2_with (first | (go_at_call 68; refine (spec_l4Build_eq.calls G w.heap.size q1 (.slice Ao q3.length co) q2 A1 A2 c1 c2 l1 l2 w12 HB.out.size B5.out (Fr.C_came (Kd.heap_int .i64) HR1.out HB.out GG.out (Nat.le_refl _)) (Fr.C_came (Kd.heap_int .i64) HR2.out HB.out GG.out (Nat.le_refl _)) hi0 hi1 hgl hal HBL.out).mono ?_; rintro e w13 ⟨he, hbd, hf⟩; rw [HVA.out] at he; subst he; rw [HGA.out] at hbd; obtain ⟨gv, hG9, hR9⟩ := hbd; obtain ⟨Ag2, cg2, rfl⟩ := Kd.R_slice hR9; have G6 := Aside0.mk hG9; have V6 := Aside0.mk hR9; have hO := hf.R V2.out (by decide) (fun k hk => Nat.ne_of_lt (Nat.lt_of_lt_of_le hk.2 hVG.out)); have O6 := Aside0.mk (Kd.R_mono (ok' := fun _ => True) hO (fun _ _ => trivial)); have R6 := Aside0.mk (hf.blk BR.out hgG (by decide)); have n_ := Aside0.mk (HB.out.trans (hf.below GG.out (Nat.le_refl _) HB.out.size)); clear HB; have HB := n_; clear n_ hG9 hR9 hf hO; have hj0 : w13.cell? ⟨G, 0, none⟩ = some (.int .i64 q1) := (blk_cell G6.out 0).trans rfl; have hj1 : w13.cell? ⟨G, 1, none⟩ = some (.slice Ag2 ga.length cg2) := (blk_cell G6.out 1).trans rfl; have hj2 : w13.cell? ⟨G, 2, none⟩ = some (.slice Ao q3.length co) := (blk_cell G6.out 2).trans rfl) | (go_at_call 12; refine (spec_GoodCircuit.calls k q1 _ cg2 ga _ co q3 true _ (Kd.R_reads' V6.out).2.2 (Kd.R_reads' V6.out).2.1 (Kd.R_reads' O6.out).2.2 (Kd.R_reads' O6.out).2.1 A5_.out).mono ?_; rintro e w14 ⟨rfl, hb⟩; have R8 := Aside0.mk (blk_below R6.out hb); have G8 := Aside0.mk (blk_below G6.out hb); have V8 := Aside0.mk (Kd.R_below V6.out hb); have O8 := Aside0.mk (Kd.R_below O6.out hb); have n_ := Aside0.mk (below_step HB.out hb); clear HB; have HB := n_; clear n_ hb; have hj0 : w14.cell? ⟨G, 0, none⟩ = some (.int .i64 q1) := (blk_cell G8.out 0).trans rfl; have hj1 : w14.cell? ⟨G, 1, none⟩ = some (.slice Ag2 ga.length cg2) := (blk_cell G8.out 1).trans rfl; have hj2 : w14.cell? ⟨G, 2, none⟩ = some (.slice Ao q3.length co) := (blk_cell G8.out 2).trans rfl; have hy0 : w14.cell? ⟨gr, 0, none⟩ = some (.int .i64 0) := (blk_cell R8.out 0).trans rfl; have hy1 : w14.cell? ⟨gr, 1, none⟩ = some (.slice none 0 0) := (blk_cell R8.out 1).trans rfl; have hy2 : w14.cell? ⟨gr, 2, none⟩ = some (.slice none 0 0) := (blk_cell R8.out 2).trans rfl; have hyf0 := blk_frozen R8.out 0; have hyf1 := blk_frozen R8.out 1; have hyf2 := blk_frozen R8.out 2))
    refine bodyPost_ret (v := .tuple #[.agg #[.int .i64 q1, .slice Ag2 ga.length cg2, .slice Ao q3.length co], .int .i64 va, .bool true]) (by simp [results, Try.results38, go_sem, hy0, hy1, hy2]) rfl ⟨_, _, rfl, ?_, ?_, ?_⟩
    ·exact Kd.R_set (Kd.R_set (Kd.R_set V8.out R8.out (by decide) 0 _) (blk_put R8.out 0 _ rfl) (by decide) 1 _) (blk_put (blk_put R8.out 0 _ rfl) 1 _ rfl) (by decide) 2 _
    ·exact Kd.R_set (Kd.R_set (Kd.R_set O8.out R8.out (by decide) 0 _) (blk_put R8.out 0 _ rfl) (by decide) 1 _) (blk_put (blk_put R8.out 0 _ rfl) 1 _ rfl) (by decide) 2 _
    ·exact ((HB.out.setCell (p := ⟨gr, 0, none⟩) GR.out _).setCell (p := ⟨gr, 1, none⟩) GR.out _).setCell (p := ⟨gr, 2, none⟩) GR.out _
  ·cases h


-- HAND
/-! ### impl_Circuit_putEq: function 70 -/
-- IMPORT Derived.StillTailTactics
set_option maxHeartbeats 16000000 in
set_option maxRecDepth 100000 in
/-- A comparison for equality that is put: its wire, and the circuit behind it. -/
theorem impl_Circuit_putEq.calls (G base : Nat) (ins : Int) (ov : Value) (g : List S59) (A1 A2 : Option Addr) (c1 c2 : Nat) (a b : List Int) (w : World) (hb : base ≤ w.heap.size) (HBD : Bd 30 G base ins ov w g) (ha : (∀ W', Fr 59 G base w W' → Kd.C (Kd.int .i64) W' A1 a.length a)) (hb2 : (∀ W', Fr 59 G base w W' → Kd.C (Kd.int .i64) W' A2 b.length b)) (hi0 : 0 ≤ ins) (hi1 : ins ≤ 1000000) (hl : g.length ≤ 900000) (hal : a.length ≤ 10000) (hbl : b.length = a.length) :
  Calls Try.prog 70 #[.pointer (some ⟨G, 0, none⟩), .slice A1 a.length c1, .slice A2 b.length c2] w fun e w' => e = .returned (.int .i64 (eqN ins a b g a.length).2) ∧ Bd 30 G base ins ov w' (eqN ins a b g a.length).1 ∧ Fr 59 G base w w' := by
 have hGlt : G < w.heap.size := by obtain ⟨gv, hG, _⟩ := HBD; exact blk_lt hG
 have HBD0 := Aside0.mk HBD
 have Hha := Aside0.mk ha
 have Hhb2 := Aside0.mk hb2
 have HBL := Aside0.mk hbl
 clear HBD ha hb2 hbl
 have hu1 := Try.underlying23
 obtain ⟨g1, hg1⟩ : ∃ q, q = g ++ [(⟨1, 1, 0⟩ : S59)] := ⟨_, rfl⟩
 obtain ⟨d0, hd0⟩ : ∃ d, d = ins + (g.length : Int) := ⟨_, rfl⟩
 have hz : eqN ins a b g 0 = (g1, d0) := by rw [hg1, hd0]; rfl
 have G1 := Aside0.mk hg1
 have N0 := Aside0.mk hd0
 have HZ := Aside0.mk hz
 have L0 : g.length ≤ 1000000 := by omega
 have HF0 := Aside0.mk (Fr.refl 59 G base w)
 have tok1 : True := trivial
 clear hg1 hd0 hz
 go_enter Try.func70, Try.ntmps70
 go_wp2_with (go_at_call 83; have _t := tok1; refine (impl_Circuit_put.calls G base ins ov g g1 1 1 0 d0 _ (Nat.le_trans hb HF0.out.size) HBD0.out hi0 hi1 L0 N0.out G1.out).mono ?_; rintro e w1 ⟨rfl, hbd, hf⟩; have B1 := Aside0.mk hbd; have F1 := Aside0.mk (HF0.out.trans hf); clear tok1 hbd hf)
 go_loopg [7, 15] a.length (fun gg so si wr => ∃ kk : Nat, kk ≤ a.length ∧ a.length - kk ≤ gg ∧ so = .int .i64 (eqN ins a b g kk).2 ∧ si = .int .i64 kk ∧ Aside0 (Bd 30 G base ins ov wr (eqN ins a b g kk).1) ∧ Aside0 (Fr 59 G base w wr))
 case atStart => exact ⟨0, Nat.zero_le _, by omega, by rw [HZ.out], rfl, by rw [HZ.out]; exact B1, F1⟩
 case round =>
  clear HBD0 HF0 B1 F1 G1 N0 HZ
  obtain ⟨kk, hkk, hg, rfl, rfl, HBD, HF⟩ := hrel
  have hlen := eqN_len ins a b g kk
  by_cases hlt : kk < a.length
  ·have hltz : (kk : Int) < (a.length : Int) := by omega
   have hs : eqN ins a b g (kk + 1) = ((eqN ins a b g kk).1 ++ [⟨5, rd a kk, rd b kk⟩] ++ [⟨2, (ins + ((eqN ins a b g kk).1.length : Int)), 0⟩] ++ [⟨3, (ins + ((eqN ins a b g kk).1.length : Int)) + 1, (eqN ins a b g kk).2⟩], (ins + ((eqN ins a b g kk).1.length : Int)) + 2) := rfl
   obtain ⟨gs, hgs⟩ : ∃ q, (eqN ins a b g kk).1 = q := ⟨_, rfl⟩
   obtain ⟨cs, hcs⟩ : ∃ q, (eqN ins a b g kk).2 = q := ⟨_, rfl⟩
   rw [hgs] at hlen
   rw [hgs, hcs] at hs
   rw [hgs] at HBD
   rw [hcs]
   clear hgs hcs
   have hgl : gs.length ≤ 970000 := by omega
   obtain ⟨d, hd⟩ : ∃ d, ins + (gs.length : Int) = d := ⟨_, rfl⟩
   rw [hd] at hs
   have hd0 : 0 ≤ d := by omega
   have hd1 : d ≤ 2000000 := by omega
   clear hlen
   obtain ⟨ad, e, hxa⟩ := Kd.at_int (Hha.out _ HF.out) (kk : Int) (by omega) hltz
   cases e
   rw [Int.toNat_natCast] at hxa
   have hltb : kk < b.length := by have := HBL.out; omega
   obtain ⟨ae, e, hya⟩ := Kd.at_int (Hhb2.out _ HF.out) (kk : Int) (by omega) (by omega)
   cases e
   rw [Int.toNat_natCast] at hya
   obtain ⟨x, hx⟩ : ∃ x, rd a kk = x := ⟨_, rfl⟩
   rw [hx] at hs hxa
   obtain ⟨y, hy⟩ : ∃ y, rd b kk = y := ⟨_, rfl⟩
   rw [hy] at hs hya
   have HX := Aside0.mk hx
   have HY := Aside0.mk hy
   clear hx hy L0
   obtain ⟨g1, hg1⟩ : ∃ q, q = gs ++ [(⟨5, x, y⟩ : S59)] := ⟨_, rfl⟩
   obtain ⟨g2, hg2⟩ : ∃ q, q = g1 ++ [(⟨2, d, 0⟩ : S59)] := ⟨_, rfl⟩
   obtain ⟨g3, hg3⟩ : ∃ q, q = g2 ++ [(⟨3, (d + 1), cs⟩ : S59)] := ⟨_, rfl⟩
   rw [← hg1, ← hg2, ← hg3] at hs
   have n1 : (g1.length : Int) = gs.length + 1 := by rw [hg1]; simp; try omega
   have n2 : (g2.length : Int) = gs.length + 2 := by rw [hg2]; simp; try omega
   have N0 := Aside0.mk (show d = ins + (gs.length : Int) by omega)
   have L0 : gs.length ≤ 1000000 := by omega
   have N1 := Aside0.mk (show (d + 1) = ins + (g1.length : Int) by omega)
   have L1 : g1.length ≤ 1000000 := by omega
   have N2 := Aside0.mk (show (d + 2) = ins + (g2.length : Int) by omega)
   have L2 : g2.length ≤ 1000000 := by omega
   have G1 := Aside0.mk hg1
   have tok1 : True := trivial
   have G2 := Aside0.mk hg2
   have tok2 : True := trivial
   have G3 := Aside0.mk hg3
   have tok3 : True := trivial
   have HS := Aside0.mk hs
   clear hs hd hg1 hg2 hg3 n1 n2
   clear hgl
   go_wp2
   go_still_tail 9, (by kernel_rfl)
   change wpList _ _ _ _ _ wr.drew
   have BD1 := Aside0.mk (HBD.out.drew)
   have FD1 := Aside0.mk (HF.out.drew)
   clear hxa hya
   generalize wr.drew = W1 at BD1 FD1 ⊢
   have hxa := Fr.cellAt FD1.out Hha.out hlt HX.out
   have hya := Fr.cellAt FD1.out Hhb2.out hltb HY.out
   go_wp2_with (first
     | (go_at_call 83; have _t := tok1; refine (impl_Circuit_put.calls G base ins ov gs g1 5 x y d _ (Nat.le_trans hb FD1.out.size) BD1.out hi0 hi1 L0 N0.out G1.out).mono ?_; rintro e w1 ⟨rfl, hbd, hf⟩; have B1 := Aside0.mk hbd; have F1 := Aside0.mk (FD1.out.trans hf); clear tok1 hbd hf hxa hya; have hxa := Fr.cellAt F1.out Hha.out hlt HX.out; have hya := Fr.cellAt F1.out Hhb2.out hltb HY.out)
     | (go_at_call 83; have _t := tok2; refine (impl_Circuit_put.calls G base ins ov g1 g2 2 d 0 (d + 1) _ (Nat.le_trans hb F1.out.size) B1.out hi0 hi1 L1 N1.out G2.out).mono ?_; rintro e w2 ⟨rfl, hbd, hf⟩; have B2 := Aside0.mk hbd; have F2 := Aside0.mk (F1.out.trans hf); clear tok2 hbd hf hxa hya; have hxa := Fr.cellAt F2.out Hha.out hlt HX.out; have hya := Fr.cellAt F2.out Hhb2.out hltb HY.out)
     | (go_at_call 83; have _t := tok3; refine (impl_Circuit_put.calls G base ins ov g2 g3 3 (d + 1) cs (d + 2) _ (Nat.le_trans hb F2.out.size) B2.out hi0 hi1 L2 N2.out G3.out).mono ?_; rintro e w3 ⟨rfl, hbd, hf⟩; have B3 := Aside0.mk hbd; have F3 := Aside0.mk (F2.out.trans hf); clear tok3 hbd hf hxa hya; have hxa := Fr.cellAt F3.out Hha.out hlt HX.out; have hya := Fr.cellAt F3.out Hhb2.out hltb HY.out))
   go_roundg (a.length - (kk + 1))
   case measure => omega
   case rel => exact ⟨kk + 1, by omega, by omega, by rw [HS.out], by go_num, by rw [HS.out]; exact B3, F3⟩
  ·have hltz : ¬ (kk : Int) < (a.length : Int) := by omega
   obtain rfl : kk = a.length := by omega
   go_wp2
   go_ret
   exact ⟨rfl, HBD.out, HF.out⟩


-- HAND
/-! ### impl_EqGates: function 39 -/
-- IMPORT Derived.StillTailTactics
/-- A circuit with a comparison put behind. -/
def impl_EqGates.f (k : Nat) (a0_0 : Int) (l0_1 : List S59) (l0_2 : List Int) (l1 l2 : List Int) : Option (Int × List S59 × List Int × Int × Bool) :=
 (impl_areLists.f k a0_0 l0_1 l0_2 l1 l2).bind fun t1 => if t1 = true then (impl_copyCircuit.f a0_0 l0_1 l0_2).bind fun c => if 0 ≤ c.1 ∧ c.1 ≤ 1000000 ∧ c.2.1.length ≤ 900000 ∧ l1.length ≤ 10000 ∧ l2.length = l1.length then (impl_GoodCircuit.f k c.1 (eqN c.1 l1 l2 c.2.1 l1.length).1 c.2.2).bind fun t4 => if t4 = true then some (c.1, (eqN c.1 l1 l2 c.2.1 l1.length).1, c.2.2, (eqN c.1 l1 l2 c.2.1 l1.length).2, true) else some (0, [], [], 0, false) else none else some (0, [], [], 0, false)
theorem impl_EqGates.mono : ∀ a0 a1 a2 a3 a4 k, LeO (impl_EqGates.f k a0 a1 a2 a3 a4) (impl_EqGates.f (k + 1) a0 a1 a2 a3 a4) := by
 intro a0 a1 a2 a3 a4 k
 unfold impl_EqGates.f
 refine LeO.bind (impl_areLists.mono _ _ _ _ _ _) (fun _ => LeO.ite (LeO.bind (LeO.refl _) (fun _ => LeO.ite (LeO.bind (impl_GoodCircuit.mono _ _ _ _) (fun _ => LeO.refl _)) (LeO.refl _))) (LeO.refl _))
set_option maxHeartbeats 32000000 in
set_option maxRecDepth 100000 in
theorem impl_EqGates_put.calls (G base : Nat) (ins : Int) (ov : Value) (g : List S59) (A1 A2 : Option Addr) (c1 c2 : Nat) (l1 l2 : List Int) (Ba Bb : Nat) (w : World) (hb : base ≤ w.heap.size) (HBD : Bd 30 G base ins ov w g) (ha : (∀ W', Fr 59 G base w W' → Kd.C (Kd.int .i64) W' A1 l1.length l1)) (hb2 : (∀ W', Fr 59 G base w W' → Kd.C (Kd.int .i64) W' A2 l2.length l2)) (hi0 : 0 ≤ ins) (hi1 : ins ≤ 1000000) (hl : g.length ≤ 900000) (hal : l1.length ≤ 10000) (hbl : l2.length = l1.length) (hxa : w.heap[Ba]? = some (.cells #[.slice A1 l1.length c1] 23 (0, 0))) (hxb : w.heap[Bb]? = some (.cells #[.slice A2 l2.length c2] 23 (0, 0))) :
  Calls Try.prog 69 #[.pointer (some ⟨G, 0, none⟩), .pointer (some ⟨Ba, 0, none⟩), .pointer (some ⟨Bb, 0, none⟩)] w fun e w' => e = .returned (.int .i64 (eqN ins l1 l2 g l1.length).2) ∧ Bd 30 G base ins ov w' (eqN ins l1 l2 g l1.length).1 ∧ Fr 59 G base w w' := by
 have hu2 := Try.underlying23
 have hx1 : w.cell? ⟨Ba, 0, none⟩ = some (.slice A1 l1.length c1) := (blk_cell hxa 0).trans rfl
 have hx2 : w.cell? ⟨Bb, 0, none⟩ = some (.slice A2 l2.length c2) := (blk_cell hxb 0).trans rfl
 have HBL := Aside0.mk hbl
 have HAA := Aside0.mk ha
 have HBB := Aside0.mk hb2
 have HBX := Aside0.mk HBD
 clear hbl hxa hxb ha hb2 HBD
 go_enter Try.func69, Try.ntmps69
 go_wp2_with (go_at_call 70; refine (impl_Circuit_putEq.calls G base ins ov g A1 A2 c1 c2 l1 l2 _ hb HBX.out HAA.out HBB.out hi0 hi1 hl hal HBL.out).mono ?_; rintro e w1 ⟨rfl, hbd, hf⟩; have B1 := Aside0.mk hbd; have F1 := Aside0.mk hf; clear hbd hf)
 go_ret
 exact ⟨rfl, B1.out, F1.out⟩
set_option maxHeartbeats 32000000 in
set_option maxRecDepth 100000 in
theorem impl_EqGates_cmp.calls (k : Nat) (a0_0 : Int) (A0_1 : Option Addr) (c0_1 : Nat) (l0_1 : List S59) (A0_2 : Option Addr) (c0_2 : Nat) (l0_2 : List Int) (A1 : Option Addr) (c1 : Nat) (l1 : List Int) (A2 : Option Addr) (c2 : Nat) (l2 : List Int) (r1 : Int) (r2 : List S59) (r3 : List Int) (r4 : Int) (r5 : Bool) (w : World) (hr0_1 : Kd.C k59 w A0_1 l0_1.length l0_1) (hc0_1 : l0_1.length ≤ c0_1) (hr0_2 : Kd.C (Kd.int .i64) w A0_2 l0_2.length l0_2) (hc0_2 : l0_2.length ≤ c0_2) (hr1 : Kd.C (Kd.int .i64) w A1 l1.length l1) (hc1 : l1.length ≤ c1) (hr2 : Kd.C (Kd.int .i64) w A2 l2.length l2) (hc2 : l2.length ≤ c2) (Ba Bb : Nat) (hxa : w.heap[Ba]? = some (.cells #[.slice A1 l1.length c1] 23 (0, 0))) (hxb : w.heap[Bb]? = some (.cells #[.slice A2 l2.length c2] 23 (0, 0))) (h : impl_EqGates.f k a0_0 l0_1 l0_2 l1 l2 = some (r1, r2, r3, r4, r5)) :
  Calls Try.prog 65 #[.agg #[.int .i64 a0_0, .slice A0_1 l0_1.length c0_1, .slice A0_2 l0_2.length c0_2], .slice A1 l1.length c1, .slice A2 l2.length c2, .func (.func 69) #[] #[.pointer (some ⟨Ba, 0, none⟩), .pointer (some ⟨Bb, 0, none⟩)]] w fun e w' => ∃ v1_ v2_ : Value, e = .returned (.tuple #[.agg #[.int .i64 r1, v1_, v2_], .int .i64 r4, .bool r5]) ∧ Kd.R k59 59 w' w.heap.size (fun _ => True) v1_ r2 ∧ Kd.R (Kd.int .i64) 3 w' w.heap.size (fun _ => True) v2_ r3 ∧ Below w.heap.size w w' := by
 have hu1 := Try.underlying30
 have hu2 := Try.underlying23
 have HR0_1 := Aside0.mk hr0_1
 have HC0_1 := Aside0.mk hc0_1
 have HR0_2 := Aside0.mk hr0_2
 have HC0_2 := Aside0.mk hc0_2
 have HR1 := Aside0.mk hr1
 have HC1 := Aside0.mk hc1
 have HR2 := Aside0.mk hr2
 have HC2 := Aside0.mk hc2
 have XA := Aside0.mk hxa
 have XB := Aside0.mk hxb
 clear hxa hxb
 clear hr0_1 hc0_1 hr0_2 hc0_2 hr1 hc1 hr2 hc2
 have HB := Aside0.mk (Below.refl w.heap.size w)
 unfold impl_EqGates.f at h
 obtain ⟨t1, h1, h⟩ := Option.bind_eq_some_iff.mp h
 have A1_ := Aside0.mk h1
 clear h1
 cases t1 with
 | false =>
  simp only [Bool.false_eq_true, if_false, Option.some.injEq, Prod.mk.injEq] at h
  obtain ⟨rfl, rfl, rfl, rfl, rfl⟩ := h
  go_enter Try.func65, Try.ntmps65
  go_wp2_with (first | ((with_reducible refine gate_dst (N := 4) rfl ?_); refine box_event ?hg (N := 4) ?hd (cs := #[.int .i64 a0_0, .slice A0_1 l0_1.length c0_1, .slice A0_2 l0_2.length c0_2]) (t := 30) ?hr ?_; (case hd => rfl); (case hg => rfl); (case hr => first | (go_simp; done) | (go_simp; rfl)); intro gc hg_ w1 hbox hb; have n_ := Aside0.mk (below_step (qB) hb); clear HB; have HB := n_; clear n_; have BC := Aside0.mk hbox; clear hbox hb hg_) | ((with_reducible refine gate_dst (N := 8) rfl ?_); refine box_event ?hg (N := 8) ?hd (cs := #[.int .i64 0, .slice none 0 0, .slice none 0 0]) (t := 30) ?hr ?_; (case hd => rfl); (case hg => rfl); (case hr => first | (go_simp; done) | (go_simp; rfl)); intro gr hg_ w2 hbox hb; have hcr : gc ≠ gr := (by rw [hg_]; exact Nat.ne_of_lt (blk_lt BC.out)); have GR := Aside0.mk ((by rw [hg_]; exact below_size (qB)) : w.heap.size ≤ gr); have n_ := Aside0.mk (blk_below (g := gc) (o := .cells #[.int .i64 a0_0, .slice A0_1 l0_1.length c0_1, .slice A0_2 l0_2.length c0_2] 30 (0, 0)) (qK BC.out) hb); clear BC; have BC := n_; clear n_; have BR := Aside0.mk hbox; have n_ := Aside0.mk (below_step (qB) hb); clear HB; have HB := n_; clear n_; have hz0 : w2.cell? ⟨gc, 0, none⟩ = some (.int .i64 a0_0) := (blk_cell BC.out 0).trans rfl; have hz1 : w2.cell? ⟨gc, 1, none⟩ = some (.slice A0_1 l0_1.length c0_1) := (blk_cell BC.out 1).trans rfl; have hz2 : w2.cell? ⟨gc, 2, none⟩ = some (.slice A0_2 l0_2.length c0_2) := (blk_cell BC.out 2).trans rfl; clear hbox hb hg_) | (go_at_call 61; (with_reducible refine (impl_areLists.calls k a0_0 _ _ l0_1 _ _ l0_2 _ _ l1 _ _ l2 false _ ?side1 ?side2 ?side3 ?side4 ?side5 ?side6 ?side7 ?side8 A1_.out).mono ?_); (case side1 => exact qC (Kd.C_below HR0_1.out HB.out)); (case side2 => exact HC0_1.out); (case side3 => exact qC (Kd.C_below HR0_2.out HB.out)); (case side4 => exact HC0_2.out); (case side5 => exact qC (Kd.C_below HR1.out HB.out)); (case side6 => exact HC1.out); (case side7 => exact qC (Kd.C_below HR2.out HB.out)); (case side8 => exact HC2.out); rintro e w5 ⟨rfl, hb⟩; have n1_ := Aside0.mk (blk_below (g := gc) (o := .cells #[.int .i64 a0_0, .slice A0_1 l0_1.length c0_1, .slice A0_2 l0_2.length c0_2] 30 (0, 0)) (qK BC.out) hb); have n2_ := Aside0.mk (blk_below (g := gr) (o := .cells #[.int .i64 0, .slice none 0 0, .slice none 0 0] 30 (0, 0)) (qK BR.out) hb); have n3_ := Aside0.mk (below_step (qB) hb); clear BC BR HB; have BC := n1_; have BR := n2_; have HB := n3_; clear n1_ n2_ n3_ hb; have hz0 : w5.cell? ⟨gc, 0, none⟩ = some (.int .i64 a0_0) := (blk_cell BC.out 0).trans rfl; have hz1 : w5.cell? ⟨gc, 1, none⟩ = some (.slice A0_1 l0_1.length c0_1) := (blk_cell BC.out 1).trans rfl; have hz2 : w5.cell? ⟨gc, 2, none⟩ = some (.slice A0_2 l0_2.length c0_2) := (blk_cell BC.out 2).trans rfl; have hy0 : w5.cell? ⟨gr, 0, none⟩ = some (.int .i64 0) := (blk_cell BR.out 0).trans rfl; have hy1 : w5.cell? ⟨gr, 1, none⟩ = some (.slice none 0 0) := (blk_cell BR.out 1).trans rfl; have hy2 : w5.cell? ⟨gr, 2, none⟩ = some (.slice none 0 0) := (blk_cell BR.out 2).trans rfl; have hyf0 := blk_frozen BR.out 0; have hyf1 := blk_frozen BR.out 1; have hyf2 := blk_frozen BR.out 2))
  refine bodyPost_ret (v := .tuple #[.agg #[.int .i64 0, .slice none 0 0, .slice none 0 0], .int .i64 0, .bool false]) (by simp [results, Try.results65, go_sem, hy0, hy1, hy2]) rfl ⟨.slice none 0 0, .slice none 0 0, rfl, Kd.R_nil _ _ _ _ _, Kd.R_nil _ _ _ _ _, qB⟩
 | true =>
  simp only [if_true] at h
  obtain ⟨⟨q1, q2, q3⟩, h4, h⟩ := Option.bind_eq_some_iff.mp h
  have A4_ := Aside0.mk h4
  clear h4
  dsimp only at h
  split at h
  ·rename_i hc
   obtain ⟨hi0, hi1, hgl, hal, hbl⟩ := hc
   have HBL := Aside0.mk hbl
   obtain ⟨ga, hga⟩ : ∃ q, (eqN q1 l1 l2 q2 l1.length).1 = q := ⟨_, rfl⟩
   obtain ⟨va, hva⟩ : ∃ q, (eqN q1 l1 l2 q2 l1.length).2 = q := ⟨_, rfl⟩
   rw [hga, hva] at h
   have HGA := Aside0.mk hga
   have HVA := Aside0.mk hva
   obtain ⟨t4, h5, h⟩ := Option.bind_eq_some_iff.mp h
   have A5_ := Aside0.mk h5
   clear h5 hga hva hbl
   go_enter Try.func65, Try.ntmps65
   go_upto_region 4 with (first | ((with_reducible refine gate_dst (N := 4) rfl ?_); refine box_event ?hg (N := 4) ?hd (cs := #[.int .i64 a0_0, .slice A0_1 l0_1.length c0_1, .slice A0_2 l0_2.length c0_2]) (t := 30) ?hr ?_; (case hd => rfl); (case hg => rfl); (case hr => first | (go_simp; done) | (go_simp; rfl)); intro gc hg_ w1 hbox hb; have n_ := Aside0.mk (below_step (qB) hb); clear HB; have HB := n_; clear n_; have BC := Aside0.mk hbox; clear hbox hb hg_) | ((with_reducible refine gate_dst (N := 8) rfl ?_); refine box_event ?hg (N := 8) ?hd (cs := #[.int .i64 0, .slice none 0 0, .slice none 0 0]) (t := 30) ?hr ?_; (case hd => rfl); (case hg => rfl); (case hr => first | (go_simp; done) | (go_simp; rfl)); intro gr hg_ w2 hbox hb; have hcr : gc ≠ gr := (by rw [hg_]; exact Nat.ne_of_lt (blk_lt BC.out)); have GR := Aside0.mk ((by rw [hg_]; exact below_size (qB)) : w.heap.size ≤ gr); have n_ := Aside0.mk (blk_below (g := gc) (o := .cells #[.int .i64 a0_0, .slice A0_1 l0_1.length c0_1, .slice A0_2 l0_2.length c0_2] 30 (0, 0)) (qK BC.out) hb); clear BC; have BC := n_; clear n_; have BR := Aside0.mk hbox; have n_ := Aside0.mk (below_step (qB) hb); clear HB; have HB := n_; clear n_; have hz0 : w2.cell? ⟨gc, 0, none⟩ = some (.int .i64 a0_0) := (blk_cell BC.out 0).trans rfl; have hz1 : w2.cell? ⟨gc, 1, none⟩ = some (.slice A0_1 l0_1.length c0_1) := (blk_cell BC.out 1).trans rfl; have hz2 : w2.cell? ⟨gc, 2, none⟩ = some (.slice A0_2 l0_2.length c0_2) := (blk_cell BC.out 2).trans rfl; clear hbox hb hg_) | (go_at_call 61; (with_reducible refine (impl_areLists.calls k a0_0 _ _ l0_1 _ _ l0_2 _ _ l1 _ _ l2 true _ ?side1 ?side2 ?side3 ?side4 ?side5 ?side6 ?side7 ?side8 A1_.out).mono ?_); (case side1 => exact qC (Kd.C_below HR0_1.out HB.out)); (case side2 => exact HC0_1.out); (case side3 => exact qC (Kd.C_below HR0_2.out HB.out)); (case side4 => exact HC0_2.out); (case side5 => exact qC (Kd.C_below HR1.out HB.out)); (case side6 => exact HC1.out); (case side7 => exact qC (Kd.C_below HR2.out HB.out)); (case side8 => exact HC2.out); rintro e w5 ⟨rfl, hb⟩; have n1_ := Aside0.mk (blk_below (g := gc) (o := .cells #[.int .i64 a0_0, .slice A0_1 l0_1.length c0_1, .slice A0_2 l0_2.length c0_2] 30 (0, 0)) (qK BC.out) hb); have n2_ := Aside0.mk (blk_below (g := gr) (o := .cells #[.int .i64 0, .slice none 0 0, .slice none 0 0] 30 (0, 0)) (qK BR.out) hb); have n3_ := Aside0.mk (below_step (qB) hb); clear BC BR HB; have BC := n1_; have BR := n2_; have HB := n3_; clear n1_ n2_ n3_ hb; have hz0 : w5.cell? ⟨gc, 0, none⟩ = some (.int .i64 a0_0) := (blk_cell BC.out 0).trans rfl; have hz1 : w5.cell? ⟨gc, 1, none⟩ = some (.slice A0_1 l0_1.length c0_1) := (blk_cell BC.out 1).trans rfl; have hz2 : w5.cell? ⟨gc, 2, none⟩ = some (.slice A0_2 l0_2.length c0_2) := (blk_cell BC.out 2).trans rfl) | (go_at_call 62; (with_reducible refine (impl_copyCircuit.calls a0_0 _ _ l0_1 _ _ l0_2 q1 q2 q3 _ ?side1 ?side2 ?side3 ?side4 A4_.out).mono ?_); (case side1 => exact qC (Kd.C_below HR0_1.out HB.out)); (case side2 => exact HC0_1.out); (case side3 => exact qC (Kd.C_below HR0_2.out HB.out)); (case side4 => exact HC0_2.out); rintro e w8 ⟨v1_, v2_, rfl, hv1, hv2, hb⟩; obtain ⟨Ag, cg, rfl⟩ := Kd.R_slice hv1; obtain ⟨Ao, co, rfl⟩ := Kd.R_slice hv2; have V1 := Aside0.mk (Kd.R_lower hv1 (below_size (qB))); have V2 := Aside0.mk (R_till (Kd.R_lower hv2 (below_size (qB)))); clear hv1 hv2; have n1_ := Aside0.mk (blk_below (g := gc) (o := .cells #[.int .i64 a0_0, .slice A0_1 l0_1.length c0_1, .slice A0_2 l0_2.length c0_2] 30 (0, 0)) (qK BC.out) hb); have n2_ := Aside0.mk (blk_below (g := gr) (o := .cells #[.int .i64 0, .slice none 0 0, .slice none 0 0] 30 (0, 0)) (qK BR.out) hb); have n3_ := Aside0.mk (below_step (qB) hb); clear BC BR HB; have BC := n1_; have BR := n2_; have HB := n3_; clear n1_ n2_ n3_ hb; have hz0 : w8.cell? ⟨gc, 0, none⟩ = some (.int .i64 a0_0) := (blk_cell BC.out 0).trans rfl; have hz1 : w8.cell? ⟨gc, 1, none⟩ = some (.slice A0_1 l0_1.length c0_1) := (blk_cell BC.out 1).trans rfl; have hz2 : w8.cell? ⟨gc, 2, none⟩ = some (.slice A0_2 l0_2.length c0_2) := (blk_cell BC.out 2).trans rfl) | ((with_reducible refine gate_dst (N := 11) rfl ?_); refine box_event ?hg (N := 11) ?hd (cs := #[.int .i64 0, .slice none 0 0, .slice none 0 0]) (t := 30) ?hr ?_; (case hd => rfl); (case hg => rfl); (case hr => first | (go_simp; done) | (go_simp; rfl)); intro G hg_ w9 hbox hb; have hgG : gr ≠ G := (by rw [hg_]; exact Nat.ne_of_lt (blk_lt BR.out)); have hVG := Aside0.mk ((by rw [hg_]; exact Nat.le_refl _) : w8.heap.size ≤ G); have GG := Aside0.mk ((by rw [hg_]; exact below_size (qB)) : w.heap.size ≤ G); have n1_ := Aside0.mk (blk_below (g := gr) (o := .cells #[.int .i64 0, .slice none 0 0, .slice none 0 0] 30 (0, 0)) (qK BR.out) hb); have n2_ := Aside0.mk (below_step (qB) hb); have n3_ := Aside0.mk (Kd.R_below V1.out hb); have n4_ := Aside0.mk (Kd.R_below V2.out hb); clear BC BR HB V1 V2; have BR := n1_; have HB := n2_; have V1 := n3_; have V2 := n4_; have BG := Aside0.mk hbox; clear n1_ n2_ n3_ n4_; have hk0 : w9.cell? ⟨G, 0, none⟩ = some (.int .i64 0) := (blk_cell BG.out 0).trans rfl; have hk1 : w9.cell? ⟨G, 1, none⟩ = some (.slice none 0 0) := (blk_cell BG.out 1).trans rfl; have hk2 : w9.cell? ⟨G, 2, none⟩ = some (.slice none 0 0) := (blk_cell BG.out 2).trans rfl; have hkf0 := blk_frozen BG.out 0; have hkf1 := blk_frozen BG.out 1; have hkf2 := blk_frozen BG.out 2; clear hbox hb hg_))
   have BG5 := Aside0.mk (blk_put (blk_put (blk_put BG.out 0 (.int .i64 q1) rfl) 1 (.slice Ag q2.length cg) rfl) 2 (.slice Ao q3.length co) rfl)
   have BR5 := Aside0.mk (blk_far (blk_far (blk_far BR.out (p := ⟨G, 0, none⟩) hgG (.int .i64 q1)) (p := ⟨G, 1, none⟩) hgG (.slice Ag q2.length cg)) (p := ⟨G, 2, none⟩) hgG (.slice Ao q3.length co))
   have V15 := Aside0.mk (Kd.R_set (Kd.R_set (Kd.R_set V1.out BG.out (by decide) 0 (.int .i64 q1)) (blk_put BG.out 0 (.int .i64 q1) rfl) (by decide) 1 (.slice Ag q2.length cg)) (blk_put (blk_put BG.out 0 (.int .i64 q1) rfl) 1 (.slice Ag q2.length cg) rfl) (by decide) 2 (.slice Ao q3.length co))
   have V25 := Aside0.mk (Kd.R_set (Kd.R_set (Kd.R_set V2.out BG.out (by decide) 0 (.int .i64 q1)) (blk_put BG.out 0 (.int .i64 q1) rfl) (by decide) 1 (.slice Ag q2.length cg)) (blk_put (blk_put BG.out 0 (.int .i64 q1) rfl) 1 (.slice Ag q2.length cg) rfl) (by decide) 2 (.slice Ao q3.length co))
   have L5 := Aside0.mk (((HB.out.setCell (p := ⟨G, 0, none⟩) GG.out (.int .i64 q1)).setCell (p := ⟨G, 1, none⟩) GG.out (.slice Ag q2.length cg)).setCell (p := ⟨G, 2, none⟩) GG.out (.slice Ao q3.length co))
   clear BG BR V1 V2 HB hk0 hk1 hk2 hkf0 hkf1 hkf2
   obtain ⟨w12, hw12⟩ : ∃ q, q = (((w9.setCell ⟨G, 0, none⟩ (.int .i64 q1)).setCell ⟨G, 1, none⟩ (.slice Ag q2.length cg)).setCell ⟨G, 2, none⟩ (.slice Ao q3.length co)) := ⟨_, rfl⟩
   rw [← hw12] at BG5 BR5 V15 V25 L5 ⊢
   clear hw12
   have BR := BR5
   have V2 := V25
   have HB := L5
   have B5 : Aside0 (Bd 30 G w.heap.size q1 (.slice Ao q3.length co) w12 q2) := ⟨⟨_, BG5.out, V15.out⟩⟩
   clear BR5 V25 L5 V15 BG5
   cases t4 with
   | false =>
    simp only [Bool.false_eq_true, if_false, Option.some.injEq, Prod.mk.injEq] at h
    obtain ⟨rfl, rfl, rfl, rfl, rfl⟩ := h
    go_wp2_with (first | (go_at_call 69; refine (impl_EqGates_put.calls G w.heap.size q1 (.slice Ao q3.length co) q2 A1 A2 c1 c2 l1 l2 Ba Bb w12 HB.out.size B5.out (Fr.C_came (Kd.heap_int .i64) HR1.out HB.out GG.out (Nat.le_refl _)) (Fr.C_came (Kd.heap_int .i64) HR2.out HB.out GG.out (Nat.le_refl _)) hi0 hi1 hgl hal HBL.out ((HB.out.block _ (blk_lt XA.out)).trans XA.out) ((HB.out.block _ (blk_lt XB.out)).trans XB.out)).mono ?_; rintro e w13 ⟨he, hbd, hf⟩; rw [HVA.out] at he; subst he; rw [HGA.out] at hbd; obtain ⟨gv, hG9, hR9⟩ := hbd; obtain ⟨Ag2, cg2, rfl⟩ := Kd.R_slice hR9; have G6 := Aside0.mk hG9; have V6 := Aside0.mk hR9; have hO := hf.R V2.out (by decide) (fun k hk => Nat.ne_of_lt (Nat.lt_of_lt_of_le hk.2 hVG.out)); have O6 := Aside0.mk (Kd.R_mono (ok' := fun _ => True) hO (fun _ _ => trivial)); have R6 := Aside0.mk (hf.blk BR.out hgG (by decide)); have n_ := Aside0.mk (HB.out.trans (hf.below GG.out (Nat.le_refl _) HB.out.size)); clear HB; have HB := n_; clear n_ hG9 hR9 hf hO; have hj0 : w13.cell? ⟨G, 0, none⟩ = some (.int .i64 q1) := (blk_cell G6.out 0).trans rfl; have hj1 : w13.cell? ⟨G, 1, none⟩ = some (.slice Ag2 ga.length cg2) := (blk_cell G6.out 1).trans rfl; have hj2 : w13.cell? ⟨G, 2, none⟩ = some (.slice Ao q3.length co) := (blk_cell G6.out 2).trans rfl) | (go_at_call 14; refine (impl_GoodCircuit.calls k q1 _ cg2 ga _ co q3 false _ (Kd.R_reads' V6.out).2.2 (Kd.R_reads' V6.out).2.1 (Kd.R_reads' O6.out).2.2 (Kd.R_reads' O6.out).2.1 A5_.out).mono ?_; rintro e w14 ⟨rfl, hb⟩; have R8 := Aside0.mk (blk_below R6.out hb); have G8 := Aside0.mk (blk_below G6.out hb); have V8 := Aside0.mk (Kd.R_below V6.out hb); have O8 := Aside0.mk (Kd.R_below O6.out hb); have n_ := Aside0.mk (below_step HB.out hb); clear HB; have HB := n_; clear n_ hb; have hj0 : w14.cell? ⟨G, 0, none⟩ = some (.int .i64 q1) := (blk_cell G8.out 0).trans rfl; have hj1 : w14.cell? ⟨G, 1, none⟩ = some (.slice Ag2 ga.length cg2) := (blk_cell G8.out 1).trans rfl; have hj2 : w14.cell? ⟨G, 2, none⟩ = some (.slice Ao q3.length co) := (blk_cell G8.out 2).trans rfl; have hy0 : w14.cell? ⟨gr, 0, none⟩ = some (.int .i64 0) := (blk_cell R8.out 0).trans rfl; have hy1 : w14.cell? ⟨gr, 1, none⟩ = some (.slice none 0 0) := (blk_cell R8.out 1).trans rfl; have hy2 : w14.cell? ⟨gr, 2, none⟩ = some (.slice none 0 0) := (blk_cell R8.out 2).trans rfl; have hyf0 := blk_frozen R8.out 0; have hyf1 := blk_frozen R8.out 1; have hyf2 := blk_frozen R8.out 2))
    refine bodyPost_ret (v := .tuple #[.agg #[.int .i64 0, .slice none 0 0, .slice none 0 0], .int .i64 0, .bool false]) (by simp [results, Try.results65, go_sem, hy0, hy1, hy2]) rfl ⟨.slice none 0 0, .slice none 0 0, rfl, Kd.R_nil _ _ _ _ _, Kd.R_nil _ _ _ _ _, qB⟩
   | true =>
    simp only [if_true, Option.some.injEq, Prod.mk.injEq] at h
    obtain ⟨rfl, rfl, rfl, rfl, rfl⟩ := h
    go_wp2_with (first | (go_at_call 69; refine (impl_EqGates_put.calls G w.heap.size q1 (.slice Ao q3.length co) q2 A1 A2 c1 c2 l1 l2 Ba Bb w12 HB.out.size B5.out (Fr.C_came (Kd.heap_int .i64) HR1.out HB.out GG.out (Nat.le_refl _)) (Fr.C_came (Kd.heap_int .i64) HR2.out HB.out GG.out (Nat.le_refl _)) hi0 hi1 hgl hal HBL.out ((HB.out.block _ (blk_lt XA.out)).trans XA.out) ((HB.out.block _ (blk_lt XB.out)).trans XB.out)).mono ?_; rintro e w13 ⟨he, hbd, hf⟩; rw [HVA.out] at he; subst he; rw [HGA.out] at hbd; obtain ⟨gv, hG9, hR9⟩ := hbd; obtain ⟨Ag2, cg2, rfl⟩ := Kd.R_slice hR9; have G6 := Aside0.mk hG9; have V6 := Aside0.mk hR9; have hO := hf.R V2.out (by decide) (fun k hk => Nat.ne_of_lt (Nat.lt_of_lt_of_le hk.2 hVG.out)); have O6 := Aside0.mk (Kd.R_mono (ok' := fun _ => True) hO (fun _ _ => trivial)); have R6 := Aside0.mk (hf.blk BR.out hgG (by decide)); have n_ := Aside0.mk (HB.out.trans (hf.below GG.out (Nat.le_refl _) HB.out.size)); clear HB; have HB := n_; clear n_ hG9 hR9 hf hO; have hj0 : w13.cell? ⟨G, 0, none⟩ = some (.int .i64 q1) := (blk_cell G6.out 0).trans rfl; have hj1 : w13.cell? ⟨G, 1, none⟩ = some (.slice Ag2 ga.length cg2) := (blk_cell G6.out 1).trans rfl; have hj2 : w13.cell? ⟨G, 2, none⟩ = some (.slice Ao q3.length co) := (blk_cell G6.out 2).trans rfl) | (go_at_call 14; refine (impl_GoodCircuit.calls k q1 _ cg2 ga _ co q3 true _ (Kd.R_reads' V6.out).2.2 (Kd.R_reads' V6.out).2.1 (Kd.R_reads' O6.out).2.2 (Kd.R_reads' O6.out).2.1 A5_.out).mono ?_; rintro e w14 ⟨rfl, hb⟩; have R8 := Aside0.mk (blk_below R6.out hb); have G8 := Aside0.mk (blk_below G6.out hb); have V8 := Aside0.mk (Kd.R_below V6.out hb); have O8 := Aside0.mk (Kd.R_below O6.out hb); have n_ := Aside0.mk (below_step HB.out hb); clear HB; have HB := n_; clear n_ hb; have hj0 : w14.cell? ⟨G, 0, none⟩ = some (.int .i64 q1) := (blk_cell G8.out 0).trans rfl; have hj1 : w14.cell? ⟨G, 1, none⟩ = some (.slice Ag2 ga.length cg2) := (blk_cell G8.out 1).trans rfl; have hj2 : w14.cell? ⟨G, 2, none⟩ = some (.slice Ao q3.length co) := (blk_cell G8.out 2).trans rfl; have hy0 : w14.cell? ⟨gr, 0, none⟩ = some (.int .i64 0) := (blk_cell R8.out 0).trans rfl; have hy1 : w14.cell? ⟨gr, 1, none⟩ = some (.slice none 0 0) := (blk_cell R8.out 1).trans rfl; have hy2 : w14.cell? ⟨gr, 2, none⟩ = some (.slice none 0 0) := (blk_cell R8.out 2).trans rfl; have hyf0 := blk_frozen R8.out 0; have hyf1 := blk_frozen R8.out 1; have hyf2 := blk_frozen R8.out 2))
    refine bodyPost_ret (v := .tuple #[.agg #[.int .i64 q1, .slice Ag2 ga.length cg2, .slice Ao q3.length co], .int .i64 va, .bool true]) (by simp [results, Try.results65, go_sem, hy0, hy1, hy2]) rfl ⟨_, _, rfl, ?_, ?_, ?_⟩
    ·exact Kd.R_set (Kd.R_set (Kd.R_set V8.out R8.out (by decide) 0 _) (blk_put R8.out 0 _ rfl) (by decide) 1 _) (blk_put (blk_put R8.out 0 _ rfl) 1 _ rfl) (by decide) 2 _
    ·exact Kd.R_set (Kd.R_set (Kd.R_set O8.out R8.out (by decide) 0 _) (blk_put R8.out 0 _ rfl) (by decide) 1 _) (blk_put (blk_put R8.out 0 _ rfl) 1 _ rfl) (by decide) 2 _
    ·exact ((HB.out.setCell (p := ⟨gr, 0, none⟩) GR.out _).setCell (p := ⟨gr, 1, none⟩) GR.out _).setCell (p := ⟨gr, 2, none⟩) GR.out _
  ·cases h
set_option maxHeartbeats 32000000 in
set_option maxRecDepth 100000 in
theorem impl_EqGates.calls (k : Nat) (a0_0 : Int) (A0_1 : Option Addr) (c0_1 : Nat) (l0_1 : List S59) (A0_2 : Option Addr) (c0_2 : Nat) (l0_2 : List Int) (A1 : Option Addr) (c1 : Nat) (l1 : List Int) (A2 : Option Addr) (c2 : Nat) (l2 : List Int) (r1 : Int) (r2 : List S59) (r3 : List Int) (r4 : Int) (r5 : Bool) (w : World) (hr0_1 : Kd.C k59 w A0_1 l0_1.length l0_1) (hc0_1 : l0_1.length ≤ c0_1) (hr0_2 : Kd.C (Kd.int .i64) w A0_2 l0_2.length l0_2) (hc0_2 : l0_2.length ≤ c0_2) (hr1 : Kd.C (Kd.int .i64) w A1 l1.length l1) (hc1 : l1.length ≤ c1) (hr2 : Kd.C (Kd.int .i64) w A2 l2.length l2) (hc2 : l2.length ≤ c2) (h : impl_EqGates.f k a0_0 l0_1 l0_2 l1 l2 = some (r1, r2, r3, r4, r5)) :
  Calls Try.prog 39 #[.agg #[.int .i64 a0_0, .slice A0_1 l0_1.length c0_1, .slice A0_2 l0_2.length c0_2], .slice A1 l1.length c1, .slice A2 l2.length c2] w fun e w' => ∃ v1_ v2_ : Value, e = .returned (.tuple #[.agg #[.int .i64 r1, v1_, v2_], .int .i64 r4, .bool r5]) ∧ Kd.R k59 59 w' w.heap.size (fun _ => True) v1_ r2 ∧ Kd.R (Kd.int .i64) 3 w' w.heap.size (fun _ => True) v2_ r3 ∧ Below w.heap.size w w' := by
 have hu1 := Try.underlying30
 have hu2 := Try.underlying23
 have HR0_1 := Aside0.mk hr0_1
 have HC0_1 := Aside0.mk hc0_1
 have HR0_2 := Aside0.mk hr0_2
 have HC0_2 := Aside0.mk hc0_2
 have HR1 := Aside0.mk hr1
 have HC1 := Aside0.mk hc1
 have HR2 := Aside0.mk hr2
 have HC2 := Aside0.mk hc2
 clear hr0_1 hc0_1 hr0_2 hc0_2 hr1 hc1 hr2 hc2
 have HB := Aside0.mk (Below.refl w.heap.size w)
 have HF := Aside0.mk h
 clear h
 go_enter Try.func39, Try.ntmps39
 go_wp2_with (first | ((with_reducible refine gate_dst (N := 3) rfl ?_); refine box_event ?hg (N := 3) ?hd (cs := #[.int .i64 a0_0, .slice A0_1 l0_1.length c0_1, .slice A0_2 l0_2.length c0_2]) (t := 30) ?hr ?_; (case hd => rfl); (case hg => rfl); (case hr => first | (go_simp; done) | (go_simp; rfl)); intro gc hg_ w1 hbox hb; have n_ := Aside0.mk (below_step (qB) hb); clear HB; have HB := n_; clear n_; have BC := Aside0.mk hbox; clear hbox hb hg_) | ((with_reducible refine gate_dst (N := 4) rfl ?_); refine box_event ?hg (N := 4) ?hd (cs := #[.slice A1 l1.length c1]) (t := 23) ?hr ?_; (case hd => rfl); (case hg => rfl); (case hr => first | (go_simp; done) | (go_simp; rfl)); intro g1 hg_ w2 hbox hb; have n_ := Aside0.mk (below_step (qB) hb); clear HB; have HB := n_; clear n_; have B1 := Aside0.mk hbox; have n_ := Aside0.mk (blk_below BC.out hb); clear BC; have BC := n_; clear n_; clear hbox hb hg_) | ((with_reducible refine gate_dst (N := 5) rfl ?_); refine box_event ?hg (N := 5) ?hd (cs := #[.slice A2 l2.length c2]) (t := 23) ?hr ?_; (case hd => rfl); (case hg => rfl); (case hr => first | (go_simp; done) | (go_simp; rfl)); intro g2 hg_ w3 hbox hb; have n_ := Aside0.mk (below_step (qB) hb); clear HB; have HB := n_; clear n_; have B2 := Aside0.mk hbox; have n_ := Aside0.mk (blk_below BC.out hb); clear BC; have BC := n_; clear n_; have n_ := Aside0.mk (blk_below B1.out hb); clear B1; have B1 := n_; clear n_; clear hbox hb hg_) | ((with_reducible refine gate_dst (N := 6) rfl ?_); refine box_event ?hg (N := 6) ?hd (cs := #[.int .i64 0, .slice none 0 0, .slice none 0 0]) (t := 30) ?hr ?_; (case hd => rfl); (case hg => rfl); (case hr => first | (go_simp; done) | (go_simp; rfl)); intro gr hg_ w4 hbox hb; have GR := Aside0.mk ((by rw [hg_]; exact below_size (qB)) : w.heap.size ≤ gr); have n_ := Aside0.mk (below_step (qB) hb); clear HB; have HB := n_; clear n_; have BR := Aside0.mk hbox; have n_ := Aside0.mk (blk_below BC.out hb); clear BC; have BC := n_; clear n_; have n_ := Aside0.mk (blk_below B1.out hb); clear B1; have B1 := n_; clear n_; have n_ := Aside0.mk (blk_below B2.out hb); clear B2; have B2 := n_; clear n_; have hz0 : w4.cell? ⟨gc, 0, none⟩ = some (.int .i64 a0_0) := (blk_cell BC.out 0).trans rfl; have hz1 : w4.cell? ⟨gc, 1, none⟩ = some (.slice A0_1 l0_1.length c0_1) := (blk_cell BC.out 1).trans rfl; have hz2 : w4.cell? ⟨gc, 2, none⟩ = some (.slice A0_2 l0_2.length c0_2) := (blk_cell BC.out 2).trans rfl; have ha0 : w4.cell? ⟨g1, 0, none⟩ = some (.slice A1 l1.length c1) := (blk_cell B1.out 0).trans rfl; have hb0 : w4.cell? ⟨g2, 0, none⟩ = some (.slice A2 l2.length c2) := (blk_cell B2.out 0).trans rfl; clear hbox hb hg_) | (go_at_call 65; refine (impl_EqGates_cmp.calls k a0_0 _ _ l0_1 _ _ l0_2 _ _ l1 _ _ l2 r1 r2 r3 r4 r5 w4 (Kd.C_below HR0_1.out HB.out) HC0_1.out (Kd.C_below HR0_2.out HB.out) HC0_2.out (Kd.C_below HR1.out HB.out) HC1.out (Kd.C_below HR2.out HB.out) HC2.out g1 g2 B1.out B2.out HF.out).mono ?_; rintro e w5 ⟨v1_, v2_, rfl, hv1, hv2, hb⟩; obtain ⟨Ag, cg, rfl⟩ := Kd.R_slice hv1; obtain ⟨Ao, co, rfl⟩ := Kd.R_slice hv2; have V8 := Aside0.mk (Kd.R_lower hv1 HB.out.size); have O8 := Aside0.mk (Kd.R_lower hv2 HB.out.size); have R8 := Aside0.mk (blk_below BR.out hb); have n_ := Aside0.mk (below_step HB.out hb); clear HB; have HB := n_; clear n_ hb hv1 hv2; have hy0 : w5.cell? ⟨gr, 0, none⟩ = some (.int .i64 0) := (blk_cell R8.out 0).trans rfl; have hy1 : w5.cell? ⟨gr, 1, none⟩ = some (.slice none 0 0) := (blk_cell R8.out 1).trans rfl; have hy2 : w5.cell? ⟨gr, 2, none⟩ = some (.slice none 0 0) := (blk_cell R8.out 2).trans rfl; have hyf0 := blk_frozen R8.out 0; have hyf1 := blk_frozen R8.out 1; have hyf2 := blk_frozen R8.out 2))
 refine bodyPost_ret (v := .tuple #[.agg #[.int .i64 r1, .slice Ag r2.length cg, .slice Ao r3.length co], .int .i64 r4, .bool r5]) (by simp [results, Try.results39, go_sem, hy0, hy1, hy2]) rfl ⟨_, _, rfl, ?_, ?_, ?_⟩
 ·exact Kd.R_set (Kd.R_set (Kd.R_set V8.out R8.out (by decide) 0 _) (blk_put R8.out 0 _ rfl) (by decide) 1 _) (blk_put (blk_put R8.out 0 _ rfl) 1 _ rfl) (by decide) 2 _
 ·exact Kd.R_set (Kd.R_set (Kd.R_set O8.out R8.out (by decide) 0 _) (blk_put R8.out 0 _ rfl) (by decide) 1 _) (blk_put (blk_put R8.out 0 _ rfl) 1 _ rfl) (by decide) 2 _
 ·exact ((HB.out.setCell (p := ⟨gr, 0, none⟩) GR.out _).setCell (p := ⟨gr, 1, none⟩) GR.out _).setCell (p := ⟨gr, 2, none⟩) GR.out _

end Go.Proofs.Ytimkjhdopncimaa.X
