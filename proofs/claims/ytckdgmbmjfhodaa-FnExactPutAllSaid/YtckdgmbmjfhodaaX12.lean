/- Go functions as Lean functions, each with the proof that its call comes to just its answer. Conditions: the arguments are of their kinds. -/
import Derived.Test.YtckdgmbmjfhodaaX0
import Derived.Test.YtckdgmbmjfhodaaX7
import Derived.Test.YtckdgmbmjfhodaaX11
namespace Go.Proofs.Ytckdgmbmjfhodaa.X
open Go.RowKit Go.Proofs.YtckdgmbmjfhodaaW.PrintWords Go.Proofs.YtckdgmbmjfhodaaW.PrintLast Go.Proofs.YtckdgmbmjfhodaaW.PrintMore
attribute [local go_sem] max2_int min2_int max_two min_two max_three min_three max_four min_four   -- for this text's walks alone
set_option linter.unusedVariables false
set_option linter.unusedSimpArgs false

/-! ### impl_checkedTerm: function 34 -/
def impl_checkedTerm.f (k : Nat) (a0 : Int) (a1 : Int) (l2 : List (S52)) : Option ((List (S52)) × Bool) := (impl_GoodTerm.f k a0 a1 l2).bind fun t190 => (if t190 = true then (some (l2, true)) else (some (([] : List (S52)), false)))
theorem impl_checkedTerm.mono : ∀ a0 a1 a2 k, LeO (impl_checkedTerm.f k a0 a1 a2) (impl_checkedTerm.f (k + 1) a0 a1 a2) := by
 intro a0 a1 a2 k
 unfold impl_checkedTerm.f
 repeat' first
   | (with_reducible exact impl_GoodTerm.mono _ _ _ _)
   | (with_reducible first | exact LeO.refl _ | exact LeO.none _ | refine LeO.ite ?_ ?_ | refine LeO.bind ?_ (fun _ => ?_))
   | exact impl_GoodTerm.mono _ _ _ _
   | exact LeO.none _ | refine LeO.ite ?_ ?_ | refine LeO.bind ?_ (fun _ => ?_)
set_option maxHeartbeats 8000000 in
set_option maxRecDepth 100000 in
theorem impl_checkedTerm.calls (k : Nat) (a0 : Int) (a1 : Int) (P2_ : Nat → Prop) (u9000_ : Value) (l2 : List (S52)) (r1 : List (S52)) (r2 : Bool) (w0 w : World) (hB : Below w0.heap.size w0 w) (ho2 : Kd.R k52 52 w w0.heap.size P2_ u9000_ l2) (h : impl_checkedTerm.f k a0 a1 l2 = some (r1, r2)) :
  Calls Try.prog 34 #[.int .i64 a0, .int .i64 a1, u9000_] w fun e w' => ∃ v0_ : Value, e = .returned (.tuple #[v0_, .bool r2]) ∧ Kd.R k52 52 w' w0.heap.size (fun k_ => (P2_ k_ ∨ w.heap.size ≤ k_)) v0_ r1 ∧ Below w0.heap.size w0 w' ∧ Kept w w' (fun k_ => P2_ k_) := by
 have HO2 := Aside0.mk (show Kd.R k52 52 w w0.heap.size (fun k_ => (P2_ k_ ∨ w.heap.size ≤ k_)) u9000_ l2 from Kd.R_mono ho2 (fun k_ hk => (.inl hk)))
 have HK := Aside0.mk (Kept.refl w (fun k_ => P2_ k_))
 have HW0 := Aside0.mk hB.size
 have HB := Aside0.mk hB
 clear hB
 have H : ((impl_GoodTerm.f k a0 a1 l2).bind fun t190 => (if t190 = true then (some (l2, true)) else (some (([] : List (S52)), false)))) = some (r1, r2) := h
 clear h
 replace H := Option.bind_eq_some_iff.mp H
 obtain ⟨t190, A40, H⟩ := H
 replace H : (if t190 = true then (some (l2, true)) else (some (([] : List (S52)), false))) = some (r1, r2) := H
 have A4 := Aside0.mk A40
 clear A40
 by_cases c5 : t190 = true
 ·subst c5
  have H1 : (some (l2, true)) = some (r1, r2) := by rw [if_pos rfl] at H; exact H
  clear H
  have H := H1
  clear H1
  simp only [Option.some.injEq, Prod.mk.injEq] at H
  obtain ⟨rfl, rfl⟩ := H
  obtain ⟨Ao6, co6, eo6⟩ := Kd.R_slice HO2.out
  subst eo6
  go_enter Try.func34, Try.ntmps34
  go_wp2_with (first | ((with_reducible refine gate_callee (f := 30) rfl ?_); refine goesL_ (some 11) rfl rfl Try.func30 (by kernel_rfl) rfl #[.int .i64 a0, .int .i64 a1, .slice Ao6 l2.length co6] rfl qG ?_; (with_reducible refine (impl_GoodTerm.calls k a0 a1 _ _ l2 true _ ?side1 ?side2 A4.out).mono ?_); (case side1 => repeat (first | exact (Kd.R_reads' HO2.out).2.2 | (with_reducible refine Kd.C_alloc ?_ _) | (with_reducible refine Kd.C_drewN ?_ _) | (with_reducible refine Kd.C_drew ?_))); (case side2 => exact (Kd.R_reads' HO2.out).2.1); rintro e w7 ⟨rfl, hb⟩; refine ⟨_, rfl, ?_⟩; have n0_ := Aside0.mk (Kd.R_below (qR HO2.out) hb); have n1_ := Aside0.mk (Kept.below (S := (fun k_ => P2_ k_)) (qH) hb); have n2_ := Aside0.mk (below_step (qB) hb); clear HO2; clear HK; clear HB; have HO2 := n0_; have HK := n1_; have HB := n2_; clear n0_ n1_ n2_; (try clear hb); (try clear hb2); (try clear hk); (try clear hi)))
  go_ret2
  exact ⟨_, qE, qR HO2.out, qB, qH⟩
 ·replace c5 := Bool.eq_false_iff.mpr c5
  subst c5
  have H1 : (some (([] : List (S52)), false)) = some (r1, r2) := by rw [if_neg (show ¬ (false = true) by decide)] at H; exact H
  clear H
  have H := H1
  clear H1
  simp only [Option.some.injEq, Prod.mk.injEq] at H
  obtain ⟨rfl, rfl⟩ := H
  obtain ⟨Ao8, co8, eo8⟩ := Kd.R_slice HO2.out
  subst eo8
  go_enter Try.func34, Try.ntmps34
  go_wp2_with (first | ((with_reducible refine gate_callee (f := 30) rfl ?_); refine goesL_ (some 11) rfl rfl Try.func30 (by kernel_rfl) rfl #[.int .i64 a0, .int .i64 a1, .slice Ao8 l2.length co8] rfl qG ?_; (with_reducible refine (impl_GoodTerm.calls k a0 a1 _ _ l2 false _ ?side1 ?side2 A4.out).mono ?_); (case side1 => repeat (first | exact (Kd.R_reads' HO2.out).2.2 | (with_reducible refine Kd.C_alloc ?_ _) | (with_reducible refine Kd.C_drewN ?_ _) | (with_reducible refine Kd.C_drew ?_))); (case side2 => exact (Kd.R_reads' HO2.out).2.1); rintro e w9 ⟨rfl, hb⟩; refine ⟨_, rfl, ?_⟩; have n0_ := Aside0.mk (Kd.R_below (qR HO2.out) hb); have n1_ := Aside0.mk (Kept.below (S := (fun k_ => P2_ k_)) (qH) hb); have n2_ := Aside0.mk (below_step (qB) hb); clear HO2; clear HK; clear HB; have HO2 := n0_; have HK := n1_; have HB := n2_; clear n0_ n1_ n2_; (try clear hb); (try clear hb2); (try clear hk); (try clear hi)))
  go_ret2
  exact ⟨_, qE, by first | exact Kd.R_nil _ _ _ _ _ | exact Kd.N_nil _ _ _ _ _ | exact Kd.V_nil _ _ _ _ _ | exact Kd.Q_nil _ _ _ _ _ | exact Kd.S_nil _ _ _ _ _, qB, qH⟩

/-! ### impl_kindOf: function 58 -/
def impl_kindOf.f (k : Nat) (l0 : List (S52)) : Option (Int) := if 0 ≤ (wrap64 ((l0.length : Int) - 1)) then (if (wrap64 ((l0.length : Int) - 1)) < (l0.length : Int) then ((impl_operandsOf.f k ((rd_T52 l0 (wrap64 ((l0.length : Int) - 1))).f0)).bind fun bt192 => (some bt192.2.2)) else (none)) else (none)
theorem impl_kindOf.mono : ∀ a0 k, LeO (impl_kindOf.f k a0) (impl_kindOf.f (k + 1) a0) := by
 intro a0 k
 unfold impl_kindOf.f
 repeat' first
   | (with_reducible exact impl_operandsOf.mono _ _)
   | (with_reducible first | exact LeO.refl _ | exact LeO.none _ | refine LeO.ite ?_ ?_ | refine LeO.bind ?_ (fun _ => ?_))
   | exact impl_operandsOf.mono _ _
   | exact LeO.none _ | refine LeO.ite ?_ ?_ | refine LeO.bind ?_ (fun _ => ?_)
set_option maxHeartbeats 8000000 in
set_option maxRecDepth 100000 in
theorem impl_kindOf.calls (k : Nat) (A0 : Option Addr) (c0 : Nat) (l0 : List (S52)) (r : Int) (w : World) (hr0 : Kd.C k52 w A0 l0.length l0) (hc0 : l0.length ≤ c0) (h : impl_kindOf.f k l0 = some r) :
  Calls Try.prog 58 #[.slice A0 l0.length c0] w fun e w' => e = .returned (.int .i64 r) ∧ Drawn0 w w' := by
 have HR0 := Aside0.mk hr0
 have HC0 := Aside0.mk hc0
 clear hr0 hc0
 have H : (if 0 ≤ (wrap64 ((l0.length : Int) - 1)) then (if (wrap64 ((l0.length : Int) - 1)) < (l0.length : Int) then ((impl_operandsOf.f k ((rd_T52 l0 (wrap64 ((l0.length : Int) - 1))).f0)).bind fun bt192 => (some bt192.2.2)) else (none)) else (none)) = some r := h
 clear h
 obtain ⟨ji2, hji2⟩ : ∃ j_ : Int, (wrap64 ((l0.length : Int) - 1)) = j_ := ⟨_, rfl⟩
 replace H : (if 0 ≤ (ji2) then (if (ji2) < (l0.length : Int) then ((impl_operandsOf.f k ((rd_T52 l0 (ji2)).f0)).bind fun bt192 => (some bt192.2.2)) else (none)) else (none)) = some r := by first | (rw [hji2] at H; exact H) | (simp only [hji2] at H ⊢; exact H)
 have hji2w : (IntKind.i64.wrap ((l0.length : Int) - 1)) = ji2 := (i64_w _).trans hji2
 by_cases c3 : 0 ≤ (ji2)
 ·rw [if_pos c3] at H
  have c3b0 : decide (0 ≤ (ji2)) = true := decide_eq_true c3
  clear c3
  by_cases c4 : (ji2) < (l0.length : Int)
  ·rw [if_pos c4] at H
   have c4b0 : decide ((ji2) < (l0.length : Int)) = true := decide_eq_true c4
   clear c4
   replace H := Option.bind_eq_some_iff.mp H
   obtain ⟨⟨t192, t193, t194⟩, A50, H⟩ := H
   replace H : (some t194) = some r := H
   have A5 := Aside0.mk A50
   clear A50
   obtain rfl := Option.some.inj H
   have p191 : 0 ≤ ((ji2) : Int) := qD
   have q191 : (ji2) < (l0.length : Int) := qD
   obtain ⟨ad191, e191, hx191_0, hx191_1⟩ := at_T52 HR0.out (ji2) p191 q191
   cases e191
   replace p191 := eq_true p191
   replace q191 := eq_true q191
   go_enter Try.func58, Try.ntmps58
   go_wp2_with (first | ((with_reducible refine gate_callee (f := 53) rfl ?_); refine goesL_ (some 14) rfl rfl Try.func53 (by kernel_rfl) rfl #[.int .i64 ((rd_T52 l0 (ji2)).f0)] rfl (by (try simp only [List.map_toArray, List.map_cons, List.map_nil]); first | done | (simp only [hji2]; rfl) | rfl | (simp only [List.length_drop, List.length_take]; rfl)) ?_; (with_reducible refine (impl_operandsOf.calls k ((rd_T52 l0 (ji2)).f0) t192 t193 t194 _ A5.out).mono ?_); rintro e w' ⟨rfl, ⟨nd, rfl⟩⟩; refine ⟨_, rfl, ?_⟩))
   go_ret
   exact ⟨by first | rfl | (simp; done) | (simp only [← hji2] <;> (first | rfl | simp)) | (simp [*]; done), by repeat (first | exact Drawn0.refl _ | apply Drawn0.step)⟩
  ·rw [if_neg c4] at H
   exact absurd H (by simp)
 ·rw [if_neg c3] at H
  exact absurd H (by simp)

/-! ### impl_isTermOf: function 33 -/
def impl_isTermOf.f (k : Nat) (a0 : Int) (a1 : Int) (l2 : List (S52)) (a3 : Int) : Option (Bool) := (impl_GoodTerm.f k a0 a1 l2).bind fun t195 => (if t195 = true then ((impl_kindOf.f k l2).bind fun t196 => (some (t196 == a3))) else (some false))
theorem impl_isTermOf.mono : ∀ a0 a1 a2 a3 k, LeO (impl_isTermOf.f k a0 a1 a2 a3) (impl_isTermOf.f (k + 1) a0 a1 a2 a3) := by
 intro a0 a1 a2 a3 k
 unfold impl_isTermOf.f
 repeat' first
   | (with_reducible exact impl_GoodTerm.mono _ _ _ _)
   | (with_reducible exact impl_kindOf.mono _ _)
   | (with_reducible first | exact LeO.refl _ | exact LeO.none _ | refine LeO.ite ?_ ?_ | refine LeO.bind ?_ (fun _ => ?_))
   | exact impl_GoodTerm.mono _ _ _ _
   | exact impl_kindOf.mono _ _
   | exact LeO.none _ | refine LeO.ite ?_ ?_ | refine LeO.bind ?_ (fun _ => ?_)
set_option maxHeartbeats 8000000 in
set_option maxRecDepth 100000 in
theorem impl_isTermOf.calls (k : Nat) (a0 : Int) (a1 : Int) (A2 : Option Addr) (c2 : Nat) (l2 : List (S52)) (a3 : Int) (r : Bool) (w : World) (hr2 : Kd.C k52 w A2 l2.length l2) (hc2 : l2.length ≤ c2) (h : impl_isTermOf.f k a0 a1 l2 a3 = some r) :
  Calls Try.prog 33 #[.int .i64 a0, .int .i64 a1, .slice A2 l2.length c2, .int .i64 a3] w fun e w' => e = .returned (.bool r) ∧ Below w.heap.size w w' := by
 have HR2 := Aside0.mk hr2
 have HC2 := Aside0.mk hc2
 clear hr2 hc2
 have HB := Aside0.mk (Below.refl w.heap.size w)
 have H : ((impl_GoodTerm.f k a0 a1 l2).bind fun t195 => (if t195 = true then ((impl_kindOf.f k l2).bind fun t196 => (some (t196 == a3))) else (some false))) = some r := h
 clear h
 replace H := Option.bind_eq_some_iff.mp H
 obtain ⟨t195, A50, H⟩ := H
 replace H : (if t195 = true then ((impl_kindOf.f k l2).bind fun t196 => (some (t196 == a3))) else (some false)) = some r := H
 have A5 := Aside0.mk A50
 clear A50
 by_cases c6 : t195 = true
 ·subst c6
  have H1 : ((impl_kindOf.f k l2).bind fun t196 => (some (t196 == a3))) = some r := by rw [if_pos rfl] at H; exact H
  clear H
  have H := H1
  clear H1
  replace H := Option.bind_eq_some_iff.mp H
  obtain ⟨t196, A70, H⟩ := H
  replace H : (some (t196 == a3)) = some r := H
  have A7 := Aside0.mk A70
  clear A70
  obtain rfl := Option.some.inj H
  go_enter Try.func33, Try.ntmps33
  go_wp2_with (first | ((with_reducible refine gate_callee (f := 30) rfl ?_); refine goesL_ (some 12) rfl rfl Try.func30 (by kernel_rfl) rfl #[.int .i64 a0, .int .i64 a1, .slice A2 l2.length c2] rfl qG ?_; (with_reducible refine (impl_GoodTerm.calls k a0 a1 _ _ l2 true _ ?side1 ?side2 A5.out).mono ?_); (case side1 => exact qC HR2.out); (case side2 => exact HC2.out); rintro e w8 ⟨rfl, hb⟩; refine ⟨_, rfl, ?_⟩; have n0_ := Aside0.mk (below_step (qB) hb); clear HB; have HB := n0_; clear n0_; (try clear hb); (try clear hb2); (try clear hk); (try clear hi)) | (go_at_call 58; (with_reducible refine (impl_kindOf.calls k _ _ l2 t196 _ ?side1 ?side2 A7.out).mono ?_); (case side1 => exact qC (Kd.C_below HR2.out HB.out)); (case side2 => exact HC2.out); rintro e w' ⟨rfl, ⟨nd, rfl⟩⟩))
  go_ret
  exact ⟨qE, qB⟩
 ·replace c6 := Bool.eq_false_iff.mpr c6
  subst c6
  have H1 : (some false) = some r := by rw [if_neg (show ¬ (false = true) by decide)] at H; exact H
  clear H
  have H := H1
  clear H1
  obtain rfl := Option.some.inj H
  go_enter Try.func33, Try.ntmps33
  go_wp2_with (first | ((with_reducible refine gate_callee (f := 30) rfl ?_); refine goesL_ (some 12) rfl rfl Try.func30 (by kernel_rfl) rfl #[.int .i64 a0, .int .i64 a1, .slice A2 l2.length c2] rfl qG ?_; (with_reducible refine (impl_GoodTerm.calls k a0 a1 _ _ l2 false _ ?side1 ?side2 A5.out).mono ?_); (case side1 => exact qC HR2.out); (case side2 => exact HC2.out); rintro e w9 ⟨rfl, hb⟩; refine ⟨_, rfl, ?_⟩; have n0_ := Aside0.mk (below_step (qB) hb); clear HB; have HB := n0_; clear n0_; (try clear hb); (try clear hb2); (try clear hk); (try clear hi)))
  go_ret
  exact ⟨qE, qB⟩

-- NOT PRINTED: function 32 (impl_PutAll_1)


-- HAND
/-! ### impl_PutAll_any: the contract of function 31 at function 32 -/
/-- Is there an element of which p says yes? -/
def impl_PutAll_any.any {α : Type} (p : α → Option Bool) : List α → Option Bool
 | [] => some false
 | x :: t => (p x).bind fun b => if b = true then some true else impl_PutAll_any.any p t
def impl_PutAll_any.p (k : Nat) (a1 : Int) (a2 : Int) (x : (List S52)) : Option Bool := (impl_isTermOf.f k a1 a2 x 1).bind fun b => some (!b)
def impl_PutAll_any.f (k : Nat) (l : List (List S52)) (a1 : Int) (a2 : Int) : Option (Bool) := impl_PutAll_any.any (impl_PutAll_any.p k a1 a2) l
theorem impl_PutAll_any.p_mono (a1 a2 : Int) (x : List S52) (k : Nat) : LeO (impl_PutAll_any.p k a1 a2 x) (impl_PutAll_any.p (k + 1) a1 a2 x) := LeO.bind (impl_isTermOf.mono _ _ _ _ _) (fun _ => LeO.refl _)
theorem impl_PutAll_any.pred (k : Nat) (B1 : Nat) (B2 : Nat) (a1 : Int) (a2 : Int) (x : (List S52)) (A : Option Addr) (c : Nat) (W : World) (b : Bool) (hx1 : W.heap[B1]? = some (.cells #[.int .i64 a1] 3 (0, 0))) (hx2 : W.heap[B2]? = some (.cells #[.int .i64 a2] 3 (0, 0))) (hr : Kd.C k52 W A x.length x) (hc : x.length ≤ c) (h : impl_PutAll_any.p k a1 a2 x = some b) :
  Calls Try.prog 32 #[.slice A x.length c, .pointer (some ⟨B1, 0, none⟩), .pointer (some ⟨B2, 0, none⟩)] W fun e w' => e = .returned (.bool b) ∧ Below W.heap.size W w' := by
 have hc1 : W.cell? ⟨B1, 0, none⟩ = some (.int .i64 a1) := (blk_cell hx1 0).trans rfl
 have hc2 : W.cell? ⟨B2, 0, none⟩ = some (.int .i64 a2) := (blk_cell hx2 0).trans rfl
 obtain ⟨g, hg, h2⟩ := Option.bind_eq_some_iff.mp h
 obtain rfl : (!g) = b := Option.some.inj h2
 have HG := Aside0.mk hg
 have HR := Aside0.mk hr
 clear hg h h2 hx1 hx2 hr
 go_enter Try.func32, Try.ntmps32
 go_wp2_with (go_at_call 33; (with_reducible refine (impl_isTermOf.calls k _ _ _ _ x _ g _ ?side1 ?side2 HG.out).mono ?_); (case side1 => exact qC HR.out); (case side2 => exact hc); rintro e w' ⟨rfl, hd⟩; have HD := Aside0.mk hd; clear hd)
 go_ret
 exact ⟨rfl, by first | exact HD.out | exact HD.out.below⟩
theorem impl_PutAll_any.mono : ∀ (l : List (List S52)) (a1 : Int) {a2 : Int} (k : Nat), LeO (impl_PutAll_any.f k l a1 a2) (impl_PutAll_any.f (k + 1) l a1 a2) := by
 intro l a1 a2 k
 unfold impl_PutAll_any.f
 induction l with
 | nil => exact LeO.refl _
 | cons x t ih =>
  unfold impl_PutAll_any.any
  exact LeO.bind (impl_PutAll_any.p_mono a1 a2 x k) (fun _ => LeO.ite (LeO.refl _) ih)
set_option maxHeartbeats 4000000 in
theorem impl_PutAll_any.index (k : Nat) (A0 : Option Addr) (c0 : Nat) (l0 : List (List S52)) (B1 : Nat) (B2 : Nat) (a1 : Int) (a2 : Int) (r : Bool) (w : World) (hr0 : Kd.C (Kd.slice 52 k52) w A0 l0.length l0) (hc0 : l0.length ≤ c0) (hx1 : w.heap[B1]? = some (.cells #[.int .i64 a1] 3 (0, 0))) (hx2 : w.heap[B2]? = some (.cells #[.int .i64 a2] 3 (0, 0))) (h : impl_PutAll_any.any (impl_PutAll_any.p k a1 a2) l0 = some r) :
  Calls Try.prog 57 #[.slice A0 l0.length c0, .func (.func 32) #[] #[.pointer (some ⟨B1, 0, none⟩), .pointer (some ⟨B2, 0, none⟩)]] w
   fun e w' => (∃ n : Int, e = .returned (.int .i64 n) ∧ decide (n ≥ 0) = r) ∧ Below w.heap.size w w' := by
 have hm := hr0.2.1
 have HR := Aside0.mk hr0
 have HH := Aside0.mk h
 clear hr0 h
 have hone : ∀ (x : (List S52)) (W : World), Below w.heap.size w W → ∀ (A : Option Addr) (c : Nat), Kd.C k52 W A x.length x → x.length ≤ c → ∀ b, (impl_PutAll_any.p k a1 a2) x = some b → Calls Try.prog 32 #[.slice A x.length c, .pointer (some ⟨B1, 0, none⟩), .pointer (some ⟨B2, 0, none⟩)] W fun e w' => e = .returned (.bool b) ∧ Below W.heap.size W w' :=
  fun x W hb A c hr hc b h => impl_PutAll_any.pred k B1 B2 a1 a2 x A c W b ((hb.block _ (blk_lt hx1)).trans hx1) ((hb.block _ (blk_lt hx2)).trans hx2) hr hc h
 have HO := Aside0.mk hone
 clear hone hx1 hx2
 go_enter Try.func57, Try.ntmps57
 go_wp2
 go_loopg [5, 8] l0.length (fun gg _ s8 wr => ∃ kk : Nat, kk ≤ l0.length ∧ l0.length - kk ≤ gg ∧ s8 = .int .i64 kk ∧ Aside0 (Below w.heap.size w wr) ∧ Aside0 (impl_PutAll_any.any (impl_PutAll_any.p k a1 a2) (l0.drop kk) = some r))
 case atStart => exact ⟨0, Nat.zero_le _, by omega, rfl, ⟨Below.refl _ _⟩, HH⟩
 case round =>
  clear HH
  obtain ⟨kk, hkk, hg, rfl, HB, HA⟩ := hrel
  by_cases hlt : kk < l0.length
  ·have hltz : (kk : Int) < (l0.length : Int) := by omega
   have h1 := HA.out
   rw [List.drop_eq_getElem_cons hlt] at h1
   unfold impl_PutAll_any.any at h1
   obtain ⟨ad, cs, e, hcsl, hK, hcs⟩ := Kd.C_get HR.out ([] : List S52) (kk : Int) (by omega) hltz
   cases e
   obtain ⟨A1, c1, rfl, hl1, hr1⟩ := hK
   have hcell : w.cell? (ad.add (kk : Int).toNat) = some (.slice A1 (l0.getD (kk : Int).toNat []).length c1) := by have hq := hcs 0 _ rfl; rwa [show (Kd.slice 52 k52).sz = 1 from rfl, Nat.mul_one, Nat.add_zero] at hq
   clear hcs hcsl
   replace hcell := (HB.out.cell (World.block_lt_of_cell? w _ hcell)).trans hcell
   replace hr1 := Kd.C_below hr1 HB.out
   have hget : l0.getD (kk : Int).toNat [] = l0[kk] := by rw [Int.toNat_natCast, List.getD_eq_getElem?_getD, List.getElem?_eq_getElem hlt]; rfl
   obtain ⟨y, hy⟩ : ∃ y, l0.getD (kk : Int).toNat [] = y := ⟨_, rfl⟩
   rw [hy] at hcell hget hl1 hr1
   clear hy
   rw [Int.toNat_natCast] at hcell
   have HR1 := Aside0.mk hr1
   have HL1 := Aside0.mk hl1
   clear hr1 hl1
   rw [← hget] at h1
   clear hget
   obtain ⟨q, hq, h2⟩ := Option.bind_eq_some_iff.mp h1
   clear h1
   have HQ := Aside0.mk hq
   clear hq
   cases q with
   | true =>
    have h3 : true = r := by simpa using h2
    have H3 := Aside0.mk h3
    clear h2 h3
    go_wp2_with (go_at_call 32; refine ((HO.out y _ HB.out _ _ HR1.out HL1.out _ HQ.out)).mono ?_; rintro e w' ⟨rfl, hb⟩; have HB2 := Aside0.mk (below_step HB.out hb); clear hb)
    go_ret
    exact ⟨⟨_, rfl, by rw [← H3.out]; exact decide_eq_true (by omega)⟩, HB2.out⟩
   | false =>
    have h3 : impl_PutAll_any.any (impl_PutAll_any.p k a1 a2) (l0.drop (kk + 1)) = some r := by simpa using h2
    have H3 := Aside0.mk h3
    clear h2 h3
    go_wp2_with (go_at_call 32; refine ((HO.out y _ HB.out _ _ HR1.out HL1.out _ HQ.out)).mono ?_; rintro e w' ⟨rfl, hb⟩; have HB2 := Aside0.mk (below_step HB.out hb); clear hb)
    go_roundg (l0.length - (kk + 1))
    case measure => omega
    case rel => exact ⟨kk + 1, by omega, by omega, by go_num, HB2, H3⟩
  ·have hltz : ¬ (kk : Int) < (l0.length : Int) := by omega
   obtain rfl : kk = l0.length := by omega
   go_wp2
   go_ret
   exact ⟨⟨_, rfl, by have h4 := HA.out; rw [List.drop_length] at h4; unfold impl_PutAll_any.any at h4; rw [← Option.some.inj h4]; rfl⟩, HB.out⟩
theorem impl_PutAll_any.calls (k : Nat) (A0 : Option Addr) (c0 : Nat) (l0 : List (List S52)) (B1 : Nat) (B2 : Nat) (a1 : Int) (a2 : Int) (r : Bool) (w : World) (hr0 : Kd.C (Kd.slice 52 k52) w A0 l0.length l0) (hc0 : l0.length ≤ c0) (hx1 : w.heap[B1]? = some (.cells #[.int .i64 a1] 3 (0, 0))) (hx2 : w.heap[B2]? = some (.cells #[.int .i64 a2] 3 (0, 0))) (h : impl_PutAll_any.f k l0 a1 a2 = some r) :
  Calls Try.prog 31 #[.slice A0 l0.length c0, .func (.func 32) #[] #[.pointer (some ⟨B1, 0, none⟩), .pointer (some ⟨B2, 0, none⟩)]] w
   fun e w' => e = .returned (.bool r) ∧ Below w.heap.size w w' := by
 have hI := impl_PutAll_any.index k A0 c0 l0 B1 B2 a1 a2 r w hr0 hc0 hx1 hx2 h
 clear hr0 h hx1 hx2
 go_enter Try.func31, Try.ntmps31
 go_wp2_with (go_at_call 57; refine hI.mono ?_; rintro e w' ⟨⟨n, rfl, hn⟩, hb⟩; have HN := Aside0.mk hn; have HB := Aside0.mk hb; clear hn hb)
 go_ret
 exact ⟨by have h1 := HN.out; simp only [ge_iff_le] at h1; first | rfl | (rw [h1]; rfl) | rw [h1], HB.out⟩


/-! ### impl_PutAll: function 12 -/
mutual
def impl_PutAll.j0 : Nat → List (S52) → List (List (S52)) → Bool → Int → Int → Option ((List (S52)) × Bool)
 | 0, _, _, _, _, _ => none
 | k + 1, x2, x3, x28, x198000, x199000 => if x28 = true then (some (([] : List (S52)), false)) else (impl_PutAll.l0 k x3 (([] : List (S52))) x2 (x2.length : Int) 0 x198000 x199000)
def impl_PutAll.l0 : Nat → List (List (S52)) → List (S52) → List (S52) → Int → Int → Int → Int → Option ((List (S52)) × Bool)
 | 0, _, _, _, _, _, _, _ => none
 | k + 1, x3, x10, x30, x31, x32, x198000, x199000 => if x32 < x31 then (if 0 ≤ x32 then (if x32 < (x30.length : Int) then (if ((rd_T52 x30 x32).f0) = 2 then (if 0 ≤ ((rd_T52 x30 x32).f1) then (if ((rd_T52 x30 x32).f1) < (x3.length : Int) then (if x10.length + (rd_L5 x3 ((rd_T52 x30 x32).f1)).length < 8796093022208 then (impl_PutAll.l0 k x3 (x10 ++ (rd_L5 x3 ((rd_T52 x30 x32).f1))) x30 x31 (wrap64 (x32 + 1)) x198000 x199000) else (none)) else (none)) else (none)) else (if x10.length < 8796093022208 then (impl_PutAll.l0 k x3 (x10 ++ [(⟨(rd_T52 x30 x32).f0, (rd_T52 x30 x32).f1⟩ : S52)]) x30 x31 (wrap64 (x32 + 1)) x198000 x199000) else (none))) else (none)) else (none)) else ((impl_checkedTerm.f k x198000 x199000 x10).bind fun bt213 => (some (bt213.1, bt213.2)))
end
def impl_PutAll.f (k : Nat) (a0 : Int) (a1 : Int) (l2 : List (S52)) (l3 : List (List (S52))) : Option ((List (S52)) × Bool) := (impl_GoodTerm.f k a0 a1 l2).bind fun t199 => (if t199 = true then (if (l3.length : Int) = a1 then ((impl_PutAll_any.f k l3 a0 a1).bind fun t200 => (impl_PutAll.j0 k l2 l3 t200 a0 a1)) else (impl_PutAll.j0 k l2 l3 true a0 a1)) else (impl_PutAll.j0 k l2 l3 true a0 a1))
theorem impl_PutAll.mono_l : ∀ k, (∀ y0 y1 y2 y3 y4, LeO (impl_PutAll.j0 k y0 y1 y2 y3 y4) (impl_PutAll.j0 (k + 1) y0 y1 y2 y3 y4)) ∧ (∀ y0 y1 y2 y3 y4 y5 y6, LeO (impl_PutAll.l0 k y0 y1 y2 y3 y4 y5 y6) (impl_PutAll.l0 (k + 1) y0 y1 y2 y3 y4 y5 y6))
 | 0 => ⟨fun _ _ _ _ _ r h => by simp [impl_PutAll.j0] at h, fun _ _ _ _ _ _ _ r h => by simp [impl_PutAll.l0] at h⟩
 | k + 1 => by
  obtain ⟨ih0, ih1⟩ := impl_PutAll.mono_l k
  refine ⟨?_, ?_⟩
  ·intro y0 y1 y2 y3 y4
   unfold impl_PutAll.j0
   repeat' first
   | (with_reducible exact ih0 _ _ _ _ _)
   | (with_reducible exact ih1 _ _ _ _ _ _ _)
   | (with_reducible exact impl_GoodTerm.mono _ _ _ _)
   | (with_reducible exact impl_PutAll_any.mono _ _ _)
   | (with_reducible exact impl_checkedTerm.mono _ _ _ _)
   | (with_reducible first | exact LeO.refl _ | exact LeO.none _ | refine LeO.ite ?_ ?_ | refine LeO.bind ?_ (fun _ => ?_))
   | exact ih0 _ _ _ _ _
   | exact ih1 _ _ _ _ _ _ _
   | exact impl_GoodTerm.mono _ _ _ _
   | exact impl_PutAll_any.mono _ _ _
   | exact impl_checkedTerm.mono _ _ _ _
   | exact LeO.none _ | refine LeO.ite ?_ ?_ | refine LeO.bind ?_ (fun _ => ?_)
  ·intro y0 y1 y2 y3 y4 y5 y6
   unfold impl_PutAll.l0
   repeat' first
   | (with_reducible exact ih0 _ _ _ _ _)
   | (with_reducible exact ih1 _ _ _ _ _ _ _)
   | (with_reducible exact impl_GoodTerm.mono _ _ _ _)
   | (with_reducible exact impl_PutAll_any.mono _ _ _)
   | (with_reducible exact impl_checkedTerm.mono _ _ _ _)
   | (with_reducible first | exact LeO.refl _ | exact LeO.none _ | refine LeO.ite ?_ ?_ | refine LeO.bind ?_ (fun _ => ?_))
   | exact ih0 _ _ _ _ _
   | exact ih1 _ _ _ _ _ _ _
   | exact impl_GoodTerm.mono _ _ _ _
   | exact impl_PutAll_any.mono _ _ _
   | exact impl_checkedTerm.mono _ _ _ _
   | exact LeO.none _ | refine LeO.ite ?_ ?_ | refine LeO.bind ?_ (fun _ => ?_)
theorem impl_PutAll.mono : ∀ a0 a1 a2 a3 k, LeO (impl_PutAll.f k a0 a1 a2 a3) (impl_PutAll.f (k + 1) a0 a1 a2 a3) := by
 intro a0 a1 a2 a3 k
 obtain ⟨ih0, ih1⟩ := impl_PutAll.mono_l k
 unfold impl_PutAll.f
 repeat' first
   | (with_reducible exact ih0 _ _ _ _ _)
   | (with_reducible exact ih1 _ _ _ _ _ _ _)
   | (with_reducible exact impl_GoodTerm.mono _ _ _ _)
   | (with_reducible exact impl_PutAll_any.mono _ _ _)
   | (with_reducible exact impl_checkedTerm.mono _ _ _ _)
   | (with_reducible first | exact LeO.refl _ | exact LeO.none _ | refine LeO.ite ?_ ?_ | refine LeO.bind ?_ (fun _ => ?_))
   | exact ih0 _ _ _ _ _
   | exact ih1 _ _ _ _ _ _ _
   | exact impl_GoodTerm.mono _ _ _ _
   | exact impl_PutAll_any.mono _ _ _
   | exact impl_checkedTerm.mono _ _ _ _
   | exact LeO.none _ | refine LeO.ite ?_ ?_ | refine LeO.bind ?_ (fun _ => ?_)
set_option maxHeartbeats 8000000 in
set_option maxRecDepth 100000 in
theorem impl_PutAll.calls (k : Nat) (a0 : Int) (a1 : Int) (A2 : Option Addr) (c2 : Nat) (l2 : List (S52)) (A3 : Option Addr) (c3 : Nat) (l3 : List (List (S52))) (r1 : List (S52)) (r2 : Bool) (w : World) (hr2 : Kd.C k52 w A2 l2.length l2) (hc2 : l2.length ≤ c2) (hr3 : Kd.C (Kd.slice 52 k52) w A3 l3.length l3) (hc3 : l3.length ≤ c3) (h : impl_PutAll.f k a0 a1 l2 l3 = some (r1, r2)) :
  Calls Try.prog 12 #[.int .i64 a0, .int .i64 a1, .slice A2 l2.length c2, .slice A3 l3.length c3] w fun e w' => ∃ v0_ : Value, e = .returned (.tuple #[v0_, .bool r2]) ∧ Kd.R k52 52 w' w.heap.size (fun _ => True) v0_ r1 ∧ Below w.heap.size w w' := by
 have hu52 := Try.underlying52
 have HR2 := Aside0.mk hr2
 have HC2 := Aside0.mk hc2
 clear hr2 hc2
 have HR3 := Aside0.mk hr3
 have HC3 := Aside0.mk hc3
 clear hr3 hc3
 have HB := Aside0.mk (Below.refl w.heap.size w)
 have H : ((impl_GoodTerm.f k a0 a1 l2).bind fun t199 => (if t199 = true then (if (l3.length : Int) = a1 then ((impl_PutAll_any.f k l3 a0 a1).bind fun t200 => (impl_PutAll.j0 k l2 l3 t200 a0 a1)) else (impl_PutAll.j0 k l2 l3 true a0 a1)) else (impl_PutAll.j0 k l2 l3 true a0 a1))) = some (r1, r2) := h
 clear h
 have HC5 := Aside0.mk H
 clear H
 go_enter Try.func12, Try.ntmps12
 go_upto_region 1 with (first | ((with_reducible refine gate_dst (N := 4) rfl ?_); (try (refine gate_guard (by rfl) ?_; dsimp only)); refine box_event ?hg (N := 4) ?hd (cs := #[.int .i64 a0]) (t := 3) ?hr ?_; (case hd => rfl); (case hg => rfl); (case hr => first | (go_simp; done) | (go_simp; rfl)); intro gb197 hg w6 hbox hb; have n0_ := Aside0.mk (below_step (qB) hb); have n1_ := Aside0.mk (hbox); have n2_ := Aside0.mk ((by rw [hg]; exact (below_size (qB)) : w.heap.size ≤ gb197)); have n3_ := Aside0.mk ((by rw [hg]; exact (below_size (qB)) : w.heap.size ≤ gb197)); clear HB; have HB := n0_; have BK197 := n1_; have GW197 := n2_; have GE197 := n3_; clear n0_ n1_ n2_ n3_; clear hb hbox hg) | ((with_reducible refine gate_dst (N := 5) rfl ?_); (try (refine gate_guard (by rfl) ?_; dsimp only)); refine box_event ?hg (N := 5) ?hd (cs := #[.int .i64 a1]) (t := 3) ?hr ?_; (case hd => rfl); (case hg => rfl); (case hr => first | (go_simp; done) | (go_simp; rfl)); intro gb198 hg w7 hbox hb; have n0_ := Aside0.mk (blk_below (g := gb197) (o := .cells #[.int .i64 a0] 3 (0, 0)) (qK BK197.out) hb); have n1_ := Aside0.mk (below_step (qB) hb); have n2_ := Aside0.mk (hbox); have n3_ := Aside0.mk ((by rw [hg]; exact (below_size (qB)) : w.heap.size ≤ gb198)); have n4_ := Aside0.mk ((by rw [hg]; exact (below_size (qB)) : w.heap.size ≤ gb198)); have n5_ := Aside0.mk ((by rw [hg]; exact Nat.ne_of_lt (blk_lt (g := gb197) (o := .cells #[.int .i64 a0] 3 (0, 0)) (qK BK197.out)) : gb197 ≠ gb198)); have n6_ := Aside0.mk ((by rw [hg]; exact Nat.ne_of_gt (blk_lt (g := gb197) (o := .cells #[.int .i64 a0] 3 (0, 0)) (qK BK197.out)) : gb198 ≠ gb197)); clear BK197; clear HB; have BK197 := n0_; have HB := n1_; have BK198 := n2_; have GW198 := n3_; have GE198 := n4_; have NB197_198 := n5_; have NB198_197 := n6_; clear n0_ n1_ n2_ n3_ n4_ n5_ n6_; clear hb hbox hg))
 (try simp only [Act.put, List.setIfInBounds_toArray, List.set_cons_zero, List.set_cons_succ])
 go_cut [28] (fun v28 wc => ∃ (kq : Nat) (x28_4 : Bool), v28 = .bool x28_4 ∧ Aside0 (impl_PutAll.j0 kq l2 l3 x28_4 a0 a1 = some (r1, r2)) ∧ Aside0 (kq ≤ k) ∧ Aside0 (wc.heap[gb197]? = some (.cells #[.int .i64 a0] 3 (0, 0))) ∧ Aside0 (wc.heap[gb198]? = some (.cells #[.int .i64 a1] 3 (0, 0))) ∧ Aside0 (Below w.heap.size w wc))
 case first =>
  have H := HC5.out
  clear HC5
  replace H := Option.bind_eq_some_iff.mp H
  obtain ⟨t199, A80, H⟩ := H
  replace H : (if t199 = true then (if (l3.length : Int) = a1 then ((impl_PutAll_any.f k l3 a0 a1).bind fun t200 => (impl_PutAll.j0 k l2 l3 t200 a0 a1)) else (impl_PutAll.j0 k l2 l3 true a0 a1)) else (impl_PutAll.j0 k l2 l3 true a0 a1)) = some (r1, r2) := H
  have A8 := Aside0.mk A80
  clear A80
  by_cases c9 : t199 = true
  ·subst c9
   have H1 : (if (l3.length : Int) = a1 then ((impl_PutAll_any.f k l3 a0 a1).bind fun t200 => (impl_PutAll.j0 k l2 l3 t200 a0 a1)) else (impl_PutAll.j0 k l2 l3 true a0 a1)) = some (r1, r2) := by rw [if_pos rfl] at H; exact H
   clear H
   have H := H1
   clear H1
   by_cases c10 : (l3.length : Int) = a1
   ·rw [if_pos c10] at H
    have c10b0 : ((l3.length : Int) == a1) = true := beq_iff_eq.mpr c10
    have c10b1 : ((l3.length : Int) != a1) = false := bne_eq_false_iff_eq.mpr c10
    clear c10
    (first | rw [c10b0] | (simp only [i64_w, i32_w]; rw [c10b0]) | skip)
    replace H := Option.bind_eq_some_iff.mp H
    obtain ⟨t200, A110, H⟩ := H
    replace H : (impl_PutAll.j0 k l2 l3 t200 a0 a1) = some (r1, r2) := H
    have A11 := Aside0.mk A110
    clear A110
    have H' := Aside0.mk H
    clear H
    have hnb12 := NB197_198.out
    have hnc12 := NB198_197.out
    have hcz13_0 : w7.cell? ⟨gb197, 0, none⟩ = some (.int .i64 a0) := (blk_cell BK197.out 0).trans rfl
    have hfz13_0 := blk_frozen BK197.out 0
    have hcz14_0 : w7.cell? ⟨gb198, 0, none⟩ = some (.int .i64 a1) := (blk_cell BK198.out 0).trans rfl
    have hfz14_0 := blk_frozen BK198.out 0
    go_wp2_with (first | ((with_reducible refine gate_callee (f := 30) rfl ?_); refine goesL_ (some 16) rfl rfl Try.func30 (by kernel_rfl) rfl #[.int .i64 a0, .int .i64 a1, .slice A2 l2.length c2] rfl qG ?_; (with_reducible refine (impl_GoodTerm.calls k a0 a1 _ _ l2 true _ ?side1 ?side2 A8.out).mono ?_); (case side1 => exact qC (Kd.C_below HR2.out HB.out)); (case side2 => exact HC2.out); rintro e w15 ⟨rfl, hb⟩; refine ⟨_, rfl, ?_⟩; have n0_ := Aside0.mk (blk_below (g := gb197) (o := .cells #[.int .i64 a0] 3 (0, 0)) (qK BK197.out) hb); have n1_ := Aside0.mk (blk_below (g := gb198) (o := .cells #[.int .i64 a1] 3 (0, 0)) (qK BK198.out) hb); have n2_ := Aside0.mk (below_step (qB) hb); clear BK197; clear BK198; clear HB; have BK197 := n0_; have BK198 := n1_; have HB := n2_; clear n0_ n1_ n2_; (try clear hb); (try clear hb2); (try clear hk); (try clear hi); have hcz16_0 : w15.cell? ⟨gb198, 0, none⟩ = some (.int .i64 a1) := (blk_cell BK198.out 0).trans rfl; have hfz16_0 := blk_frozen BK198.out 0; have hcz17_0 : w15.cell? ⟨gb197, 0, none⟩ = some (.int .i64 a0) := (blk_cell BK197.out 0).trans rfl; have hfz17_0 := blk_frozen BK197.out 0) | (go_at_call 31; (with_reducible refine (impl_PutAll_any.calls k _ _ l3 _ _ a0 a1 t200 _ ?side1 ?side2 ?side3 ?side4 A11.out).mono ?_); (case side1 => exact qC (Kd.C_below HR3.out HB.out)); (case side2 => exact HC3.out); (case side3 => exact by exact qK BK197.out); (case side4 => exact by exact qK BK198.out); rintro e w18 ⟨rfl, hb⟩; have n0_ := Aside0.mk (blk_below (g := gb197) (o := .cells #[.int .i64 a0] 3 (0, 0)) (qK BK197.out) hb); have n1_ := Aside0.mk (blk_below (g := gb198) (o := .cells #[.int .i64 a1] 3 (0, 0)) (qK BK198.out) hb); have n2_ := Aside0.mk (below_step (qB) hb); clear BK197; clear BK198; clear HB; have BK197 := n0_; have BK198 := n1_; have HB := n2_; clear n0_ n1_ n2_; (try clear hb); (try clear hb2); (try clear hk); (try clear hi)))
    go_meet
    case rel => exact ⟨_, (t200), qS, H', ⟨by first | omega | exact Nat.le_refl _⟩, ⟨by exact qK BK197.out⟩, ⟨by exact qK BK198.out⟩, ⟨qB⟩⟩
   ·rw [if_neg c10] at H
    have c10b0 : ((l3.length : Int) == a1) = false := beq_eq_false_iff_ne.mpr c10
    have c10b1 : ((l3.length : Int) != a1) = true := bne_iff_ne.mpr c10
    (first | rw [c10b0] | (simp only [i64_w, i32_w]; rw [c10b0]) | skip)
    have H' := Aside0.mk H
    clear H
    have hnb19 := NB197_198.out
    have hnc19 := NB198_197.out
    have hcz20_0 : w7.cell? ⟨gb197, 0, none⟩ = some (.int .i64 a0) := (blk_cell BK197.out 0).trans rfl
    have hfz20_0 := blk_frozen BK197.out 0
    have hcz21_0 : w7.cell? ⟨gb198, 0, none⟩ = some (.int .i64 a1) := (blk_cell BK198.out 0).trans rfl
    have hfz21_0 := blk_frozen BK198.out 0
    go_wp2_with (first | ((with_reducible refine gate_callee (f := 30) rfl ?_); refine goesL_ (some 16) rfl rfl Try.func30 (by kernel_rfl) rfl #[.int .i64 a0, .int .i64 a1, .slice A2 l2.length c2] rfl qG ?_; (with_reducible refine (impl_GoodTerm.calls k a0 a1 _ _ l2 true _ ?side1 ?side2 A8.out).mono ?_); (case side1 => exact qC (Kd.C_below HR2.out HB.out)); (case side2 => exact HC2.out); rintro e w22 ⟨rfl, hb⟩; refine ⟨_, rfl, ?_⟩; have n0_ := Aside0.mk (blk_below (g := gb197) (o := .cells #[.int .i64 a0] 3 (0, 0)) (qK BK197.out) hb); have n1_ := Aside0.mk (blk_below (g := gb198) (o := .cells #[.int .i64 a1] 3 (0, 0)) (qK BK198.out) hb); have n2_ := Aside0.mk (below_step (qB) hb); clear BK197; clear BK198; clear HB; have BK197 := n0_; have BK198 := n1_; have HB := n2_; clear n0_ n1_ n2_; (try clear hb); (try clear hb2); (try clear hk); (try clear hi); have hcz23_0 : w22.cell? ⟨gb198, 0, none⟩ = some (.int .i64 a1) := (blk_cell BK198.out 0).trans rfl; have hfz23_0 := blk_frozen BK198.out 0))
    go_meet
    case rel => exact ⟨_, (true), qS, H', ⟨by first | omega | exact Nat.le_refl _⟩, ⟨by exact qK BK197.out⟩, ⟨by exact qK BK198.out⟩, ⟨qB⟩⟩
  ·replace c9 := Bool.eq_false_iff.mpr c9
   subst c9
   have H1 : (impl_PutAll.j0 k l2 l3 true a0 a1) = some (r1, r2) := by rw [if_neg (show ¬ (false = true) by decide)] at H; exact H
   clear H
   have H := H1
   clear H1
   have H' := Aside0.mk H
   clear H
   have hnb24 := NB197_198.out
   have hnc24 := NB198_197.out
   have hcz25_0 : w7.cell? ⟨gb197, 0, none⟩ = some (.int .i64 a0) := (blk_cell BK197.out 0).trans rfl
   have hfz25_0 := blk_frozen BK197.out 0
   have hcz26_0 : w7.cell? ⟨gb198, 0, none⟩ = some (.int .i64 a1) := (blk_cell BK198.out 0).trans rfl
   have hfz26_0 := blk_frozen BK198.out 0
   go_wp2_with (first | ((with_reducible refine gate_callee (f := 30) rfl ?_); refine goesL_ (some 16) rfl rfl Try.func30 (by kernel_rfl) rfl #[.int .i64 a0, .int .i64 a1, .slice A2 l2.length c2] rfl qG ?_; (with_reducible refine (impl_GoodTerm.calls k a0 a1 _ _ l2 false _ ?side1 ?side2 A8.out).mono ?_); (case side1 => exact qC (Kd.C_below HR2.out HB.out)); (case side2 => exact HC2.out); rintro e w27 ⟨rfl, hb⟩; refine ⟨_, rfl, ?_⟩; have n0_ := Aside0.mk (blk_below (g := gb197) (o := .cells #[.int .i64 a0] 3 (0, 0)) (qK BK197.out) hb); have n1_ := Aside0.mk (blk_below (g := gb198) (o := .cells #[.int .i64 a1] 3 (0, 0)) (qK BK198.out) hb); have n2_ := Aside0.mk (below_step (qB) hb); clear BK197; clear BK198; clear HB; have BK197 := n0_; have BK198 := n1_; have HB := n2_; clear n0_ n1_ n2_; (try clear hb); (try clear hb2); (try clear hk); (try clear hi)))
   go_meet
   case rel => exact ⟨_, (true), qS, H', ⟨by first | omega | exact Nat.le_refl _⟩, ⟨by exact qK BK197.out⟩, ⟨by exact qK BK198.out⟩, ⟨qB⟩⟩
 case rest =>
  clear HC5
  try clear c1
  try clear c2
  try clear p2
  try clear c3
  try clear c9
  try clear c10
  try clear c10b0
  try clear c10b1
  try clear c12
  try clear c19
  try clear c24
  try clear hcz13_0
  try clear hcz14_0
  try clear hcz16_0
  try clear hcz17_0
  try clear hcz20_0
  try clear hcz21_0
  try clear hcz23_0
  try clear hcz25_0
  try clear hcz26_0
  try clear hfz13_0
  try clear hfz14_0
  try clear hfz16_0
  try clear hfz17_0
  try clear hfz20_0
  try clear hfz21_0
  try clear hfz23_0
  try clear hfz25_0
  try clear hfz26_0
  obtain ⟨kq, x28_4, rfl, HA, HJ4, BK197, BK198, HB⟩ := hcut
  cases kq with
  | zero => exact absurd HA.out (by simp [impl_PutAll.j0])
  | succ kj4 =>
   have H := HA.out
   clear HA
   simp only [impl_PutAll.j0] at H
   by_cases c28 : x28_4 = true
   ·subst c28
    have H1 : (some (([] : List (S52)), false)) = some (r1, r2) := by rw [if_pos rfl] at H; exact H
    clear H
    have H := H1
    clear H1
    simp only [Option.some.injEq, Prod.mk.injEq] at H
    obtain ⟨rfl, rfl⟩ := H
    go_wp2
    go_ret2
    exact ⟨_, qE, by first | exact Kd.R_nil _ _ _ _ _ | exact Kd.N_nil _ _ _ _ _ | exact Kd.V_nil _ _ _ _ _ | exact Kd.Q_nil _ _ _ _ _ | exact Kd.S_nil _ _ _ _ _, qB⟩
   ·replace c28 := Bool.eq_false_iff.mpr c28
    subst c28
    have H1 : (impl_PutAll.l0 kj4 l3 (([] : List (S52))) l2 (l2.length : Int) 0 a0 a1) = some (r1, r2) := by rw [if_neg (show ¬ (false = true) by decide)] at H; exact H
    clear H
    have H := H1
    clear H1
    obtain ⟨y201, hy201⟩ : ∃ y_ : List (S52), y_ = (([] : List (S52))) := ⟨_, rfl⟩
    replace H : (impl_PutAll.l0 kj4 l3 y201 l2 (l2.length : Int) 0 a0 a1) = some (r1, r2) := qY hy201 H
    have Ny201 := Aside0.mk hy201
    clear hy201
    have H' := Aside0.mk H
    clear H
    go_wp2_with (first | ((with_reducible refine gate_dst (N := 29) rfl ?_); (try (refine gate_guard (by rfl) ?_; dsimp only)); refine Kd.R_lit k52 _ 52 ?hg (N := 29) ?hd (xs := ([] : List (S52))) (inner := []) (ok := fun _ => True) (okp := fun _ => True) ?hr ?hp (fun _ hk => hk) trivial (Below.refl _ _) (Nat.le_refl _) (by simp) ?_; (case hd => rfl); (case hg => rfl); (case hr => first | (go_simp; done) | (go_simp; rfl)); (case hp => exact (Reps.none _ _)); intro v202 w29 ho30 hb hg_ hnew_; clear hg_ hnew_; (first | rw [← Ny201.out] at ho30 | (simp only [Int.reduceToNat] at ho30; rw [← Ny201.out] at ho30)); have n0_ := Aside0.mk (Kd.R_lower ho30 (below_size (qB))); have n1_ := Aside0.mk (blk_below (g := gb197) (o := .cells #[.int .i64 a0] 3 (0, 0)) (qK BK197.out) hb); have n2_ := Aside0.mk (blk_below (g := gb198) (o := .cells #[.int .i64 a1] 3 (0, 0)) (qK BK198.out) hb); have n3_ := Aside0.mk (below_step (qB) hb); clear BK197; clear BK198; clear HB; have HO203 := n0_; have BK197 := n1_; have BK198 := n2_; have HB := n3_; clear n0_ n1_ n2_ n3_; clear hb ho30))
    go_loopg [10, 32] kj4 (fun kq v10 v32 w' => ∃ (x10_2 : List (S52)) (x32_2 : Int), v32 = .int .i64 x32_2 ∧ Aside0 (impl_PutAll.l0 kq l3 x10_2 l2 (l2.length : Int) x32_2 a0 a1 = some (r1, r2)) ∧ Aside0 (kq ≤ kj4) ∧ Aside0 (Kd.R k52 52 w' w.heap.size (fun _ => True) v10 x10_2) ∧ Aside0 (w'.heap[gb197]? = some (.cells #[.int .i64 a0] 3 (0, 0))) ∧ Aside0 (w'.heap[gb198]? = some (.cells #[.int .i64 a1] 3 (0, 0))) ∧ Aside0 (Below w.heap.size w w'))
    case atStart => exact ⟨(y201), (0), qS, H', ⟨Nat.le_refl _⟩, ⟨qR HO203.out⟩, ⟨by exact qK BK197.out⟩, ⟨by exact qK BK198.out⟩, ⟨qB⟩⟩
    case round =>
     clear H'
     try clear c1
     try clear c2
     try clear p2
     try clear c3
     try clear c9
     try clear c10
     try clear c10b0
     try clear c10b1
     try clear c12
     try clear c19
     try clear c24
     try clear c28
     try clear c30
     try clear hcz13_0
     try clear hcz14_0
     try clear hcz16_0
     try clear hcz17_0
     try clear hcz20_0
     try clear hcz21_0
     try clear hcz23_0
     try clear hcz25_0
     try clear hcz26_0
     try clear hfz13_0
     try clear hfz14_0
     try clear hfz16_0
     try clear hfz17_0
     try clear hfz20_0
     try clear hfz21_0
     try clear hfz23_0
     try clear hfz25_0
     try clear hfz26_0
     try clear p2
     obtain ⟨x10_2, x32_2, rfl, HA, HK2, HO_10, BK197, BK198, HB⟩ := hrel
     cases gk with
     | zero => exact absurd HA.out (by simp [impl_PutAll.l0])
     | succ k2 =>
      have H := HA.out
      clear HA
      simp only [impl_PutAll.l0] at H
      by_cases c31 : x32_2 < (l2.length : Int)
      ·rw [if_pos c31] at H
       have c31b0 : decide (x32_2 < (l2.length : Int)) = true := decide_eq_true c31
       clear c31
       by_cases c32 : 0 ≤ x32_2
       ·rw [if_pos c32] at H
        have c32b0 : decide (0 ≤ x32_2) = true := decide_eq_true c32
        clear c32
        by_cases c33 : x32_2 < (l2.length : Int)
        ·rw [if_pos c33] at H
         have c33b0 : decide (x32_2 < (l2.length : Int)) = true := decide_eq_true c33
         clear c33
         by_cases c34 : ((rd_T52 l2 x32_2).f0) = 2
         ·rw [if_pos c34] at H
          have c34b0 : (((rd_T52 l2 x32_2).f0) == 2) = true := beq_iff_eq.mpr c34
          have c34b1 : (((rd_T52 l2 x32_2).f0) != 2) = false := bne_eq_false_iff_eq.mpr c34
          clear c34
          by_cases c35 : 0 ≤ ((rd_T52 l2 x32_2).f1)
          ·rw [if_pos c35] at H
           have c35b0 : decide (0 ≤ ((rd_T52 l2 x32_2).f1)) = true := decide_eq_true c35
           clear c35
           by_cases c36 : ((rd_T52 l2 x32_2).f1) < (l3.length : Int)
           ·rw [if_pos c36] at H
            have c36b0 : decide (((rd_T52 l2 x32_2).f1) < (l3.length : Int)) = true := decide_eq_true c36
            clear c36
            by_cases c37 : x10_2.length + (rd_L5 l3 ((rd_T52 l2 x32_2).f1)).length < 8796093022208
            ·rw [if_pos c37] at H
             have LMc37 := Aside0.mk c37
             clear c37
             obtain ⟨y207, hy207⟩ : ∃ y_ : List (S52), y_ = (x10_2 ++ (rd_L5 l3 ((rd_T52 l2 x32_2).f1))) := ⟨_, rfl⟩
             replace H : (impl_PutAll.l0 k2 l3 y207 l2 (l2.length : Int) (wrap64 (x32_2 + 1)) a0 a1) = some (r1, r2) := qY hy207 H
             have Ny207 := Aside0.mk hy207
             clear hy207
             have H' := Aside0.mk H
             clear H
             have p204 : 0 ≤ (x32_2 : Int) := qD
             have q204 : x32_2 < (l2.length : Int) := qD
             obtain ⟨ad204, e204, hx204_0, hx204_1⟩ := at_T52 HR2.out x32_2 p204 q204
             cases e204
             replace hx204_0 := (HB.out.cell (World.block_lt_of_cell? w _ hx204_0)).trans hx204_0
             replace hx204_1 := (HB.out.cell (World.block_lt_of_cell? w _ hx204_1)).trans hx204_1
             replace p204 := eq_true p204
             replace q204 := eq_true q204
             go_wp2_with (first | ((with_reducible refine gate_dst (N := 12) rfl ?_); (try (refine gate_guard (by rfl) ?_; dsimp only)); refine box_event ?hg (N := 12) ?hd (cs := #[.int .i64 0, .int .u64 0]) (t := 52) ?hr ?_; (case hd => rfl); (case hg => rfl); (case hr => first | (go_simp; done) | (go_simp; rfl)); intro gb205 hg w38 hbox hb; have n0_ := Aside0.mk (Kd.R_below (Kd.R_elderB (qR HO_10.out) gb205 (Nat.le_of_eq hg.symm)) hb); have n1_ := Aside0.mk (blk_below (g := gb197) (o := .cells #[.int .i64 a0] 3 (0, 0)) (qK BK197.out) hb); have n2_ := Aside0.mk (blk_below (g := gb198) (o := .cells #[.int .i64 a1] 3 (0, 0)) (qK BK198.out) hb); have n3_ := Aside0.mk (below_step (qB) hb); have n4_ := Aside0.mk (hbox); have n5_ := Aside0.mk ((by rw [hg]; exact (below_size (qB)) : w.heap.size ≤ gb205)); have n6_ := Aside0.mk ((by rw [hg]; exact (below_size (qB)) : w.heap.size ≤ gb205)); have n7_ := Aside0.mk ((by rw [hg]; exact Nat.ne_of_lt (blk_lt (g := gb197) (o := .cells #[.int .i64 a0] 3 (0, 0)) (qK BK197.out)) : gb197 ≠ gb205)); have n8_ := Aside0.mk ((by rw [hg]; exact Nat.ne_of_gt (blk_lt (g := gb197) (o := .cells #[.int .i64 a0] 3 (0, 0)) (qK BK197.out)) : gb205 ≠ gb197)); have n9_ := Aside0.mk ((by rw [hg]; exact Nat.ne_of_lt (blk_lt (g := gb198) (o := .cells #[.int .i64 a1] 3 (0, 0)) (qK BK198.out)) : gb198 ≠ gb205)); have n10_ := Aside0.mk ((by rw [hg]; exact Nat.ne_of_gt (blk_lt (g := gb198) (o := .cells #[.int .i64 a1] 3 (0, 0)) (qK BK198.out)) : gb205 ≠ gb198)); clear HO_10; clear BK197; clear BK198; clear HB; have HO_10 := n0_; have BK197 := n1_; have BK198 := n2_; have HB := n3_; have BK205 := n4_; have GW205 := n5_; have GE205 := n6_; have NB197_205 := n7_; have NB205_197 := n8_; have NB198_205 := n9_; have NB205_198 := n10_; clear n0_ n1_ n2_ n3_ n4_ n5_ n6_ n7_ n8_ n9_ n10_; clear hb hbox hg; have hnb39 := NB205_197.out; have hnc39 := NB197_205.out; have hnb40 := NB205_198.out; have hnc40 := NB198_205.out; have hcz41_0 : w38.cell? ⟨gb205, 0, none⟩ = some (.int .i64 0) := (blk_cell BK205.out 0).trans rfl; have hcz41_1 : w38.cell? ⟨gb205, 1, none⟩ = some (.int .u64 0) := (blk_cell BK205.out 1).trans rfl; have hfz41_0 := blk_frozen BK205.out 0; have hfz41_1 := blk_frozen BK205.out 1; have p206 : 0 ≤ (((rd_T52 l2 x32_2).f1) : Int) := qD; have q206 : ((rd_T52 l2 x32_2).f1) < (l3.length : Int) := qD; obtain ⟨ad206, A206_0, c206_0, e206, hx206_0, hl206_0, hi206_0⟩ := at_L5 HR3.out ((rd_T52 l2 x32_2).f1) p206 q206; cases e206; have hn206_0 : ad206.block ≠ gb205 := Nat.ne_of_lt (Nat.lt_of_lt_of_le (by have := World.block_lt_of_cell? _ _ hx206_0; first | rwa [add_block] at this | exact this) GW205.out); have hn206_1 : ad206.block ≠ gb205 := Nat.ne_of_lt (Nat.lt_of_lt_of_le (by have := World.block_lt_of_cell? _ _ hx206_0; first | rwa [add_block] at this | exact this) GW205.out); replace hx206_0 := (HB.out.cell (World.block_lt_of_cell? w _ hx206_0)).trans hx206_0; have HR206_0 := Aside0.mk hi206_0; have HC206_0 := Aside0.mk hl206_0; clear hi206_0 hl206_0; replace hx206_0 := (cell_far (p := ⟨gb205, 0, none⟩) (qA hn206_0) (.int .i64 ((rd_T52 l2 x32_2).f0))).trans hx206_0; replace hx206_0 := (cell_far (p := ⟨gb205, 1, none⟩) (qA hn206_1) (.int .u64 ((rd_T52 l2 x32_2).f1))).trans hx206_0; clear hn206_0; clear hn206_1; replace p206 := eq_true p206; replace q206 := eq_true q206) | ((with_reducible refine gate_builtin (b := .append) (xs := #[.tmp 39, .tmp 44]) rfl ?_); (try (refine gate_guard (by rfl) ?_; dsimp only)); at_builtin; refine Kd.R_append_rows k52 (w0 := w) w.heap.size rfl (.tmp 39) (.tmp 44) 26 52 (.agg #[(.int .i64 0), (.int .u64 0)]) 16 rfl Try.underlying26 info52 rfl (by decide) (by omega) u10 x10_2 (rd_L5 l3 ((rd_T52 l2 x32_2).f1)) _ _ _ (fun k_ => k_ ≠ gb205) (fun _ => False) rfl rfl ?aO ?aR (fun _ _ h => h) (fun _ h => h.elim) ?aF ?aB ?aS ?aL ?_; (case aR => exact Kd.C_below HR206_0.out (qB)); (case aB => exact (qB)); (case aF => exact (fun k_ hk => Kd.freshB (g := gb205) (o := .cells #[.int .i64 ((rd_T52 l2 x32_2).f0), .int .u64 ((rd_T52 l2 x32_2).f1)] 52 (0, 0)) (by (with_reducible repeat (first | refine blk_drewN ?_ _ | refine blk_drew ?_ | refine blk_alloc ?_ _)); refine blk_put (cs := #[.int .i64 ((rd_T52 l2 x32_2).f0), .int .u64 0]) ?_ 1 _ rfl; refine blk_put (cs := #[.int .i64 0, .int .u64 0]) ?_ 0 _ rfl; exact qK BK205.out) k_ hk)); (case aO => exact (by (with_reducible repeat (first | apply Kd.R_alloc | apply Kd.R_drewN | apply Kd.R_drew)); exact Kd.R_mono (Kd.R_far (p := ⟨gb205, 1, none⟩) (Kd.R_far (p := ⟨gb205, 0, none⟩) (Kd.R_mono HO_10.out (fun k_ hk => (⟨hk, hk.2⟩ : _ ∧ k_ ≠ gb205))) (fun _ hk => hk.2) (.int .i64 ((rd_T52 l2 x32_2).f0))) (fun _ hk => hk.2) (.int .u64 ((rd_T52 l2 x32_2).f1))) (fun _ hk => hk.1.2))); (case aS => exact (below_size (qB))); (case aL => have := LMc37.out; omega); intro v208 w42 ho hb hg hat; rw [← Ny207.out] at ho; have n0_ := Aside0.mk (blk_grown (g := gb197) (o := .cells #[.int .i64 a0] 3 (0, 0)) (qF BK197.out) hg (Kd.R_ne HO_10.out BK197.out (by decide))); have n1_ := Aside0.mk (blk_grown (g := gb198) (o := .cells #[.int .i64 a1] 3 (0, 0)) (qF BK198.out) hg (Kd.R_ne HO_10.out BK198.out (by decide))); have n2_ := Aside0.mk (blk_grown (g := gb205) (o := .cells #[.int .i64 ((rd_T52 l2 x32_2).f0), .int .u64 ((rd_T52 l2 x32_2).f1)] 52 (0, 0)) (by (with_reducible repeat (first | refine blk_drewN ?_ _ | refine blk_drew ?_ | refine blk_alloc ?_ _)); refine blk_put (cs := #[.int .i64 ((rd_T52 l2 x32_2).f0), .int .u64 0]) ?_ 1 _ rfl; refine blk_put (cs := #[.int .i64 0, .int .u64 0]) ?_ 0 _ rfl; exact qK BK205.out) hg (Kd.R_away HO_10.out (fun _ hk => hk.2))); have n3_ := Aside0.mk (hb); have n4_ := Aside0.mk (ho); clear BK197; clear BK198; clear BK205; clear HB; clear HO_10; have BK197 := n0_; have BK198 := n1_; have BK205 := n2_; have HB := n3_; have HO209 := n4_; clear n0_ n1_ n2_ n3_ n4_; clear ho hb hg hat))
             go_roundg k2
             case measure => have := HJ4.out; have := HK2.out; omega
             case rel => exact ⟨(y207), (wrap64 (x32_2 + 1)), qS, H', ⟨by have := HJ4.out; have := HK2.out; omega⟩, ⟨by (with_reducible repeat (first | apply Kd.R_alloc | apply Kd.R_drewN | apply Kd.R_drew)); exact Kd.R_mono HO209.out (fun _ hk => trivial)⟩, ⟨by exact qK BK197.out⟩, ⟨by exact qK BK198.out⟩, ⟨qB⟩⟩
            ·rw [if_neg c37] at H
             exact absurd H (by simp)
           ·rw [if_neg c36] at H
            exact absurd H (by simp)
          ·rw [if_neg c35] at H
           exact absurd H (by simp)
         ·rw [if_neg c34] at H
          have c34b0 : (((rd_T52 l2 x32_2).f0) == 2) = false := beq_eq_false_iff_ne.mpr c34
          have c34b1 : (((rd_T52 l2 x32_2).f0) != 2) = true := bne_iff_ne.mpr c34
          by_cases c43 : x10_2.length < 8796093022208
          ·rw [if_pos c43] at H
           have LMc43 := Aside0.mk c43
           clear c43
           obtain ⟨y210, hy210⟩ : ∃ y_ : List (S52), y_ = (x10_2 ++ [(⟨(rd_T52 l2 x32_2).f0, (rd_T52 l2 x32_2).f1⟩ : S52)]) := ⟨_, rfl⟩
           replace H : (impl_PutAll.l0 k2 l3 y210 l2 (l2.length : Int) (wrap64 (x32_2 + 1)) a0 a1) = some (r1, r2) := qY hy210 H
           have Ny210 := Aside0.mk hy210
           clear hy210
           have H' := Aside0.mk H
           clear H
           have p204 : 0 ≤ (x32_2 : Int) := qD
           have q204 : x32_2 < (l2.length : Int) := qD
           obtain ⟨ad204, e204, hx204_0, hx204_1⟩ := at_T52 HR2.out x32_2 p204 q204
           cases e204
           replace hx204_0 := (HB.out.cell (World.block_lt_of_cell? w _ hx204_0)).trans hx204_0
           replace hx204_1 := (HB.out.cell (World.block_lt_of_cell? w _ hx204_1)).trans hx204_1
           replace p204 := eq_true p204
           replace q204 := eq_true q204
           go_wp2_with (first | ((with_reducible refine gate_dst (N := 12) rfl ?_); (try (refine gate_guard (by rfl) ?_; dsimp only)); refine box_event ?hg (N := 12) ?hd (cs := #[.int .i64 0, .int .u64 0]) (t := 52) ?hr ?_; (case hd => rfl); (case hg => rfl); (case hr => first | (go_simp; done) | (go_simp; rfl)); intro gb205 hg w44 hbox hb; have n0_ := Aside0.mk (Kd.R_below (Kd.R_elderB (qR HO_10.out) gb205 (Nat.le_of_eq hg.symm)) hb); have n1_ := Aside0.mk (blk_below (g := gb197) (o := .cells #[.int .i64 a0] 3 (0, 0)) (qK BK197.out) hb); have n2_ := Aside0.mk (blk_below (g := gb198) (o := .cells #[.int .i64 a1] 3 (0, 0)) (qK BK198.out) hb); have n3_ := Aside0.mk (below_step (qB) hb); have n4_ := Aside0.mk (hbox); have n5_ := Aside0.mk ((by rw [hg]; exact (below_size (qB)) : w.heap.size ≤ gb205)); have n6_ := Aside0.mk ((by rw [hg]; exact (below_size (qB)) : w.heap.size ≤ gb205)); have n7_ := Aside0.mk ((by rw [hg]; exact Nat.ne_of_lt (blk_lt (g := gb197) (o := .cells #[.int .i64 a0] 3 (0, 0)) (qK BK197.out)) : gb197 ≠ gb205)); have n8_ := Aside0.mk ((by rw [hg]; exact Nat.ne_of_gt (blk_lt (g := gb197) (o := .cells #[.int .i64 a0] 3 (0, 0)) (qK BK197.out)) : gb205 ≠ gb197)); have n9_ := Aside0.mk ((by rw [hg]; exact Nat.ne_of_lt (blk_lt (g := gb198) (o := .cells #[.int .i64 a1] 3 (0, 0)) (qK BK198.out)) : gb198 ≠ gb205)); have n10_ := Aside0.mk ((by rw [hg]; exact Nat.ne_of_gt (blk_lt (g := gb198) (o := .cells #[.int .i64 a1] 3 (0, 0)) (qK BK198.out)) : gb205 ≠ gb198)); clear HO_10; clear BK197; clear BK198; clear HB; have HO_10 := n0_; have BK197 := n1_; have BK198 := n2_; have HB := n3_; have BK205 := n4_; have GW205 := n5_; have GE205 := n6_; have NB197_205 := n7_; have NB205_197 := n8_; have NB198_205 := n9_; have NB205_198 := n10_; clear n0_ n1_ n2_ n3_ n4_ n5_ n6_ n7_ n8_ n9_ n10_; clear hb hbox hg; have hnb45 := NB205_197.out; have hnc45 := NB197_205.out; have hnb46 := NB205_198.out; have hnc46 := NB198_205.out; have hcz47_0 : w44.cell? ⟨gb205, 0, none⟩ = some (.int .i64 0) := (blk_cell BK205.out 0).trans rfl; have hcz47_1 : w44.cell? ⟨gb205, 1, none⟩ = some (.int .u64 0) := (blk_cell BK205.out 1).trans rfl; have hfz47_0 := blk_frozen BK205.out 0; have hfz47_1 := blk_frozen BK205.out 1) | ((with_reducible refine gate_builtin (b := .append) (xs := #[.tmp 46, .tmp 48]) rfl ?_); (try (refine gate_guard (by rfl) ?_; dsimp only)); at_builtin; refine Kd.R_append k52 (w0 := w) w.heap.size rfl (.tmp 46) (.tmp 48) 26 52 (.agg #[(.int .i64 0), (.int .u64 0)]) 16 rfl Try.underlying26 info52 rfl (by decide) (by omega) u10 x10_2 (⟨(rd_T52 l2 x32_2).f0, (rd_T52 l2 x32_2).f1⟩ : S52) [.int .i64 ((rd_T52 l2 x32_2).f0), .int .u64 ((rd_T52 l2 x32_2).f1)] (fun k_ => k_ ≠ gb205) (fun _ => False) rfl (by first | (go_simp; done) | (go_simp; rfl)) ?aP (fun _ hk => hk.elim) ?aF ?aO ?aB ?aS ?aL ?_; (case aP => exact k52_mkM _ _ _ (⟨(rd_T52 l2 x32_2).f0, (rd_T52 l2 x32_2).f1⟩ : S52)); (case aB => exact (qB)); (case aF => exact (fun k_ hk => Kd.freshB (g := gb205) (o := .cells #[.int .i64 ((rd_T52 l2 x32_2).f0), .int .u64 ((rd_T52 l2 x32_2).f1)] 52 (0, 0)) (by (with_reducible repeat (first | refine blk_drewN ?_ _ | refine blk_drew ?_ | refine blk_alloc ?_ _)); refine blk_put (cs := #[.int .i64 ((rd_T52 l2 x32_2).f0), .int .u64 0]) ?_ 1 _ rfl; refine blk_put (cs := #[.int .i64 0, .int .u64 0]) ?_ 0 _ rfl; exact qK BK205.out) k_ hk)); (case aO => exact (by (with_reducible repeat (first | apply Kd.R_alloc | apply Kd.R_drewN | apply Kd.R_drew)); exact Kd.R_mono (Kd.R_far (p := ⟨gb205, 1, none⟩) (Kd.R_far (p := ⟨gb205, 0, none⟩) (Kd.R_mono HO_10.out (fun k_ hk => (⟨hk, hk.2⟩ : _ ∧ k_ ≠ gb205))) (fun _ hk => hk.2) (.int .i64 ((rd_T52 l2 x32_2).f0))) (fun _ hk => hk.2) (.int .u64 ((rd_T52 l2 x32_2).f1))) (fun _ hk => hk.1.2))); (case aS => exact (below_size (qB))); (case aL => have := LMc43.out; omega); intro v211 w48 ho hb hg hat; rw [← Ny210.out] at ho; have n0_ := Aside0.mk (blk_grown (g := gb197) (o := .cells #[.int .i64 a0] 3 (0, 0)) (qF BK197.out) hg (Kd.R_ne HO_10.out BK197.out (by decide))); have n1_ := Aside0.mk (blk_grown (g := gb198) (o := .cells #[.int .i64 a1] 3 (0, 0)) (qF BK198.out) hg (Kd.R_ne HO_10.out BK198.out (by decide))); have n2_ := Aside0.mk (blk_grown (g := gb205) (o := .cells #[.int .i64 ((rd_T52 l2 x32_2).f0), .int .u64 ((rd_T52 l2 x32_2).f1)] 52 (0, 0)) (by (with_reducible repeat (first | refine blk_drewN ?_ _ | refine blk_drew ?_ | refine blk_alloc ?_ _)); refine blk_put (cs := #[.int .i64 ((rd_T52 l2 x32_2).f0), .int .u64 0]) ?_ 1 _ rfl; refine blk_put (cs := #[.int .i64 0, .int .u64 0]) ?_ 0 _ rfl; exact qK BK205.out) hg (Kd.R_away HO_10.out (fun _ hk => hk.2))); have n3_ := Aside0.mk (hb); have n4_ := Aside0.mk (ho); clear BK197; clear BK198; clear BK205; clear HB; clear HO_10; have BK197 := n0_; have BK198 := n1_; have BK205 := n2_; have HB := n3_; have HO212 := n4_; clear n0_ n1_ n2_ n3_ n4_; clear ho hb hg hat))
           go_roundg k2
           case measure => have := HJ4.out; have := HK2.out; omega
           case rel => exact ⟨(y210), (wrap64 (x32_2 + 1)), qS, H', ⟨by have := HJ4.out; have := HK2.out; omega⟩, ⟨by (with_reducible repeat (first | apply Kd.R_alloc | apply Kd.R_drewN | apply Kd.R_drew)); exact Kd.R_mono HO212.out (fun _ hk => trivial)⟩, ⟨by exact qK BK197.out⟩, ⟨by exact qK BK198.out⟩, ⟨qB⟩⟩
          ·rw [if_neg c43] at H
           exact absurd H (by simp)
        ·rw [if_neg c33] at H
         exact absurd H (by simp)
       ·rw [if_neg c32] at H
        exact absurd H (by simp)
      ·rw [if_neg c31] at H
       have c31b0 : decide (x32_2 < (l2.length : Int)) = false := decide_eq_false c31
       clear c31
       replace H := Option.bind_eq_some_iff.mp H
       obtain ⟨⟨t213, t216⟩, A490, H⟩ := H
       replace H : (some (t213, t216)) = some (r1, r2) := H
       have A49 := Aside0.mk A490
       clear A490
       simp only [Option.some.injEq, Prod.mk.injEq] at H
       obtain ⟨rfl, rfl⟩ := H
       have hnb50 := NB197_198.out
       have hnc50 := NB198_197.out
       have hcz51_0 : wr.cell? ⟨gb197, 0, none⟩ = some (.int .i64 a0) := (blk_cell BK197.out 0).trans rfl
       have hfz51_0 := blk_frozen BK197.out 0
       have hcz52_0 : wr.cell? ⟨gb198, 0, none⟩ = some (.int .i64 a1) := (blk_cell BK198.out 0).trans rfl
       have hfz52_0 := blk_frozen BK198.out 0
       obtain ⟨Ao53, co53, eo53⟩ := Kd.R_slice HO_10.out
       subst eo53
       go_wp2_with (first | ((with_reducible refine gate_callee (f := 34) rfl ?_); refine goesL_ (some 54) rfl rfl Try.func34 (by kernel_rfl) rfl #[.int .i64 a0, .int .i64 a1, .slice Ao53 x10_2.length co53] rfl qG ?_; (with_reducible refine (impl_checkedTerm.calls k2 a0 a1 (fun k_ => some k_ = (.slice Ao53 x10_2.length co53 : Value).ownBlock) (.slice Ao53 x10_2.length co53) x10_2 t213 t216 w _ ?side1 ?side2 A49.out).mono ?_); (case side1 => repeat (first | (with_reducible first | exact HB.out | apply below_alloc | apply pw_below_drewN | apply below_drew1 | refine below_set ?_ GE197.out | refine below_set ?_ GE198.out) | exact HB.out)); (case side2 => exact Kd.R_tight rfl HO_10.out); rintro e w54 ⟨v214, rfl, ho0, hb, hkp⟩; refine ⟨_, rfl, ?_⟩; have n0_ := Aside0.mk (blk_kept (qK BK197.out) hkp (fun hs_ => (fun e_ => (Kd.R_ne HO_10.out BK197.out (by decide)) e_) hs_)); have n1_ := Aside0.mk (blk_kept (qK BK198.out) hkp (fun hs_ => (fun e_ => (Kd.R_ne HO_10.out BK198.out (by decide)) e_) hs_)); have n2_ := Aside0.mk (Kd.R_mono (ok' := fun k_ => True) ho0 (fun k_ hk_ => trivial)); have n3_ := Aside0.mk (hb); clear BK197; clear BK198; clear HB; clear HO_10; have BK197 := n0_; have BK198 := n1_; have HO215 := n2_; have HB := n3_; clear n0_ n1_ n2_ n3_; (try clear hb); (try clear hkp); (try clear ho0)))
       go_ret2
       exact ⟨_, qE, qR HO215.out, qB⟩

end Go.Proofs.Ytckdgmbmjfhodaa.X
