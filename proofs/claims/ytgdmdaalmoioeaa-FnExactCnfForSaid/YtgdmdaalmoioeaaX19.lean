/- Go functions as Lean functions, each with the proof that its call comes to just its answer. Conditions: the arguments are of their kinds. -/
import Derived.Test.YtgdmdaalmoioeaaX0
import Derived.Test.YtgdmdaalmoioeaaX9
import Derived.Test.YtgdmdaalmoioeaaX12
import Derived.Test.YtgdmdaalmoioeaaX14
import Derived.Test.YtgdmdaalmoioeaaX15
namespace Go.Proofs.Ytgdmdaalmoioeaa.X
open Go.RowKit Go.Proofs.YtgdmdaalmoioeaaW.PrintWords Go.Proofs.YtgdmdaalmoioeaaW.PrintLast Go.Proofs.YtgdmdaalmoioeaaW.PrintMore
attribute [local go_sem] max2_int min2_int max_two min_two max_three min_three max_four min_four   -- for this text's walks alone
set_option linter.unusedVariables false
set_option linter.unusedSimpArgs false

-- HAND
/-! ### impl_CnfFor: function 8 -/
namespace Sapp
open Kd
section
variable {P : Program} {ops : Array Oper} {rest : List Oper} {o : Oper} {a : Act} {Q : Exit → Act → World → Prop} {Kc : Act → World → Prop} {α : Type}
open Classical in
/-- append(v, ys...) where ys' rows are nobody else's: they become v's. -/
theorem S_append_rows_step (d : Kd α) {w0 W : World} (base : Nat) (hw : Region.wanted o (yielded ops a.tmps) = true) (s x : Operand) (t e : TypeId) (z : Value) (bytes : Nat)
  (ho : o.op = .call { callee := .builtin .append, args := #[s, x], argTypes := #[t, t] })
  (ht : P.underlying t = some (.slice e)) (hinfo : (P.info? e).map (fun i => (i.zero, i.size, i.bytes)) = some (some z, d.sz, bytes)) (hz : z.cells.size = d.sz) (hs0 : 0 < d.sz) (hb0 : 0 < bytes)
  (v : Value) (xs ys : List α) (A : Option Addr) (m c : Nat) (ok okx oky : Nat → Prop) (hs : a.eval s = v) (hx : a.eval x = .slice A m c)
  (HO : S d e W base okx v xs) (HY : S d e W base oky (.slice A m c) ys) (hap : ∀ k, okx k → oky k → False) (hokx : ∀ k, okx k → ok k) (hoky : ∀ k, oky k → ok k ∧ some k ≠ v.ownBlock) (hfresh : ∀ k, W.heap.size ≤ k → ok k)
  (HB : Below base w0 W) (hbase : base ≤ W.heap.size) (hl : (xs.length + m) * bytes ≤ 140737488355328)
  (h : ∀ v1 w1, S d e w1 base ok v1 (xs ++ ys) → Below base w0 w1 → W.grownBy w1 v.ownBlock → (v1.ownBlock = v.ownBlock ∨ ∃ b, v1.ownBlock = some b ∧ W.heap.size ≤ b) → Kc (a.put o.dst v1) w1) :
  if Region.wanted o (yielded ops a.tmps) = true then Oper.wp P o a W Kc Q else Kc (a.put o.dst undef) W := by
 obtain ⟨f, hf⟩ := HO
 obtain ⟨g, hg⟩ := HY
 obtain ⟨A', c', he, hl', hrd⟩ := OwnRow.reads hg.2
 injection he with e1 e2 e3
 subst e1 e3
 rw [List.length_zipIdx] at e2
 subst e2
 have hX : (tag (fun k => if oky k then xs.length + g k else f k) d).R e W base okx v xs.zipIdx := R_tag hf (fun k hk _ => if_neg (fun h2 => hap k hk h2))
 refine R_append_rows_step (tag (fun k => if oky k then xs.length + g k else f k) d) (Rr := fun p cs => d.M W base (fun k => oky k ∧ xs.length + g k = p.2) p.1 cs) base hw s x t e z bytes ho ht hinfo hz hs0 hb0 v xs.zipIdx (ys.zipIdx xs.length) A ys.length c ok oky hs hx (R_mono hX hokx) ?_ (fun p cs hp => d.M_mono (fun k hk => ⟨hk.1, (if_pos hk.1).trans hk.2⟩) hp) hoky hfresh HB hbase (by rw [List.length_zipIdx]; exact hl) ?_
 ·refine ⟨List.length_zipIdx, by have := hrd.2.1; rwa [List.length_zipIdx] at this, fun hp => ?_⟩
  obtain ⟨ad, ha, hc⟩ := hrd.2.2 (by rw [List.length_zipIdx]; exact hp)
  refine ⟨ad, ha, fun j p hj => ?_⟩
  rw [List.getElem?_zipIdx] at hj
  obtain ⟨y, hy, rfl⟩ := Option.map_eq_some_iff.1 hj
  obtain ⟨cs, hcl, hM, hcell⟩ := hc j (y, j) (by rw [List.getElem?_zipIdx, hy, Nat.zero_add]; rfl)
  exact ⟨cs, hcl, d.M_mono (fun k hk => ⟨hk.1.1, by have := hk.2; dsimp only at this ⊢; omega⟩) hM, hcell⟩
 ·intro v1 w1 hr
  have hz2 : xs.zipIdx ++ ys.zipIdx xs.length = (xs ++ ys).zipIdx := by rw [List.zipIdx_append, Nat.zero_add]
  rw [hz2] at hr
  exact h v1 w1 ⟨_, hr⟩
end
end Sapp
theorem sep_at {W w1 : World} (_ : Below W.heap.size W w1) : ∃ N, W.heap.size = N := ⟨_, rfl⟩
theorem S_old_at {α : Type} {d : Kd α} {e base N : Nat} {ok : Nat → Prop} {W w1 : World} {v : Value} {xs : List α} (h : Kd.S d e W base ok v xs) (hb : Below W.heap.size W w1) (hN : W.heap.size = N) : Kd.S d e w1 base (fun k => ok k ∧ k < N) v xs :=
 Kd.S_mono (Kd.S_old h hb) (fun k hk => ⟨hk.1, hN ▸ hk.2⟩)
theorem V_elder_at {α : Type} {d : Kd α} {e base N : Nat} {ok : Nat → Prop} {W w1 : World} {u v : Value} {xs : List α} (h : Kd.V d e W base ok v xs) (hbase : ∀ k, u.ownBlock = some k → W.heap.size ≤ k) (hb : Below W.heap.size W w1) (hN : W.heap.size = N) : Kd.V d e w1 base (fun k => ok k ∧ (some k ≠ u.ownBlock ∧ k < N)) v xs :=
 Kd.V_mono (Kd.V_below (Kd.V_bound h) hb) (fun k hk => ⟨hk.1, fun e_ => Nat.not_lt.2 (hbase k e_.symm) hk.2, hN ▸ hk.2⟩)
theorem S_new_at {α : Type} {d : Kd α} {e N : Nat} {ok : Nat → Prop} {W w1 : World} {u v : Value} {xs : List α} (h : Kd.S d e w1 W.heap.size ok v xs) (hlt : ∀ k, u.ownBlock = some k → k < W.heap.size) (hN : W.heap.size = N) : Kd.S d e w1 W.heap.size (fun k => ok k ∧ (some k ≠ u.ownBlock ∧ N ≤ k)) v xs :=
 Kd.S_mono (Kd.S_bound h) (fun k hk => ⟨hk.1, fun e_ => Nat.not_lt.2 hk.2.1 (hlt k e_.symm), hN ▸ hk.2.1⟩)
theorem S_from {α : Type} {d : Kd α} {e base : Nat} {ok : Nat → Prop} {W : World} {v : Value} {xs : List α} (h : Kd.S d e W base ok v xs) : Kd.S d e W base (fun k => base ≤ k) v xs := Kd.S_mono (Kd.S_bound h) (fun k hk => hk.2.1)
mutual
def impl_CnfFor.j0 : Nat → List Bool → Bool → Int → List (S54) → List Int → Option (Int × (List (List Int)) × Bool)
 | 0, _, _, _, _, _ => none
 | k + 1, x1, x21, x335000, x335001, x335002 => if x21 = true then (some (0, ([] : List (List Int)), false)) else ((impl_Circuit_wires.f x335000 x335001 x335002).bind fun t337 => (impl_CnfFor.l0 k x1 x335001 (x335001.length : Int) 0 x335000 x335001 x335002 t337 ([] : List (List Int))))
def impl_CnfFor.l0 : Nat → List Bool → List (S54) → Int → Int → Int → List (S54) → List Int → Int → List (List Int) → Option (Int × (List (List Int)) × Bool)
 | 0, _, _, _, _, _, _, _, _, _ => none
 | k + 1, x1, x27, x28, x29, x335000, x335001, x335002, x339000, x339001 => if x29 < x28 then (if 0 ≤ x29 then (if x29 < (x27.length : Int) then ((impl_clausesOf.f ((rd_T54 x27 x29).f0) ((rd_T54 x27 x29).f1) ((rd_T54 x27 x29).f2) (wrap64 ((wrap64 (x335000 + x29)) + 1))).bind fun t341 => (if x339001.length + t341.length < 5864062014805 then (impl_CnfFor.l0 k x1 x27 x28 (wrap64 (x29 + 1)) x335000 x335001 x335002 x339000 (x339001 ++ t341)) else (none))) else (none)) else (none)) else (impl_CnfFor.l1 k x1 x335002 (x335002.length : Int) 0 x339000 x339001)
def impl_CnfFor.l1 : Nat → List Bool → List Int → Int → Int → Int → List (List Int) → Option (Int × (List (List Int)) × Bool)
 | 0, _, _, _, _, _, _ => none
 | k + 1, x1, x47, x48, x49, x339000, x339001 => if x49 < x48 then (if 0 ≤ x49 then (if x49 < (x47.length : Int) then (if x49 < (x1.length : Int) then (if rdOf false x1 x49 = true then (if x339001.length < 5864062014805 then (impl_CnfFor.l1 k x1 x47 x48 (wrap64 (x49 + 1)) x339000 (x339001 ++ [(([wrap64 ((rd x47 x49) + 1)] : List Int))])) else (none)) else (if x339001.length < 5864062014805 then (impl_CnfFor.l1 k x1 x47 x48 (wrap64 (x49 + 1)) x339000 (x339001 ++ [(([wrap64 ((wrap64 (-(rd x47 x49))) - 1)] : List Int))])) else (none))) else (none)) else (none)) else (none)) else ((impl_GoodCnf.f x339000 x339001).bind fun t361 => (if t361 = true then (some (x339000, x339001, true)) else (some (0, ([] : List (List Int)), false))))
end
def impl_CnfFor.f (k : Nat) (a0_0 : Int) (l0_1 : List (S54)) (l0_2 : List Int) (l1 : List Bool) : Option (Int × (List (List Int)) × Bool) := (impl_GoodCircuit.f k a0_0 l0_1 l0_2).bind fun t336 => (if t336 = true then (impl_CnfFor.j0 k l1 ((l1.length : Int) != (l0_2.length : Int)) a0_0 l0_1 l0_2) else (impl_CnfFor.j0 k l1 true a0_0 l0_1 l0_2))
theorem impl_CnfFor.mono_l : ∀ k, (∀ y0 y1 y2 y3 y4, LeO (impl_CnfFor.j0 k y0 y1 y2 y3 y4) (impl_CnfFor.j0 (k + 1) y0 y1 y2 y3 y4)) ∧ (∀ y0 y1 y2 y3 y4 y5 y6 y7 y8, LeO (impl_CnfFor.l0 k y0 y1 y2 y3 y4 y5 y6 y7 y8) (impl_CnfFor.l0 (k + 1) y0 y1 y2 y3 y4 y5 y6 y7 y8)) ∧ (∀ y0 y1 y2 y3 y4 y5, LeO (impl_CnfFor.l1 k y0 y1 y2 y3 y4 y5) (impl_CnfFor.l1 (k + 1) y0 y1 y2 y3 y4 y5))
 | 0 => ⟨fun _ _ _ _ _ r h => by simp [impl_CnfFor.j0] at h, fun _ _ _ _ _ _ _ _ _ r h => by simp [impl_CnfFor.l0] at h, fun _ _ _ _ _ _ r h => by simp [impl_CnfFor.l1] at h⟩
 | k + 1 => by
  obtain ⟨ih0, ih1, ih2⟩ := impl_CnfFor.mono_l k
  refine ⟨?_, ?_, ?_⟩
  ·intro y0 y1 y2 y3 y4
   unfold impl_CnfFor.j0
   repeat' first
   | (with_reducible exact ih0 _ _ _ _ _)
   | (with_reducible exact ih1 _ _ _ _ _ _ _ _ _)
   | (with_reducible exact ih2 _ _ _ _ _ _)
   | (with_reducible exact impl_GoodCircuit.mono _ _ _ _)
   | (with_reducible first | exact LeO.refl _ | exact LeO.none _ | refine LeO.ite ?_ ?_ | refine LeO.bind ?_ (fun _ => ?_))
   | exact ih0 _ _ _ _ _
   | exact ih1 _ _ _ _ _ _ _ _ _
   | exact ih2 _ _ _ _ _ _
   | exact impl_GoodCircuit.mono _ _ _ _
   | exact LeO.none _ | refine LeO.ite ?_ ?_ | refine LeO.bind ?_ (fun _ => ?_)
  ·intro y0 y1 y2 y3 y4 y5 y6 y7 y8
   unfold impl_CnfFor.l0
   repeat' first
   | (with_reducible exact ih0 _ _ _ _ _)
   | (with_reducible exact ih1 _ _ _ _ _ _ _ _ _)
   | (with_reducible exact ih2 _ _ _ _ _ _)
   | (with_reducible exact impl_GoodCircuit.mono _ _ _ _)
   | (with_reducible first | exact LeO.refl _ | exact LeO.none _ | refine LeO.ite ?_ ?_ | refine LeO.bind ?_ (fun _ => ?_))
   | exact ih0 _ _ _ _ _
   | exact ih1 _ _ _ _ _ _ _ _ _
   | exact ih2 _ _ _ _ _ _
   | exact impl_GoodCircuit.mono _ _ _ _
   | exact LeO.none _ | refine LeO.ite ?_ ?_ | refine LeO.bind ?_ (fun _ => ?_)
  ·intro y0 y1 y2 y3 y4 y5
   unfold impl_CnfFor.l1
   repeat' first
   | (with_reducible exact ih0 _ _ _ _ _)
   | (with_reducible exact ih1 _ _ _ _ _ _ _ _ _)
   | (with_reducible exact ih2 _ _ _ _ _ _)
   | (with_reducible exact impl_GoodCircuit.mono _ _ _ _)
   | (with_reducible first | exact LeO.refl _ | exact LeO.none _ | refine LeO.ite ?_ ?_ | refine LeO.bind ?_ (fun _ => ?_))
   | exact ih0 _ _ _ _ _
   | exact ih1 _ _ _ _ _ _ _ _ _
   | exact ih2 _ _ _ _ _ _
   | exact impl_GoodCircuit.mono _ _ _ _
   | exact LeO.none _ | refine LeO.ite ?_ ?_ | refine LeO.bind ?_ (fun _ => ?_)
theorem impl_CnfFor.mono : ∀ a0 a1 a2 a3 k, LeO (impl_CnfFor.f k a0 a1 a2 a3) (impl_CnfFor.f (k + 1) a0 a1 a2 a3) := by
 intro a0 a1 a2 a3 k
 obtain ⟨ih0, ih1, ih2⟩ := impl_CnfFor.mono_l k
 unfold impl_CnfFor.f
 repeat' first
   | (with_reducible exact ih0 _ _ _ _ _)
   | (with_reducible exact ih1 _ _ _ _ _ _ _ _ _)
   | (with_reducible exact ih2 _ _ _ _ _ _)
   | (with_reducible exact impl_GoodCircuit.mono _ _ _ _)
   | (with_reducible first | exact LeO.refl _ | exact LeO.none _ | refine LeO.ite ?_ ?_ | refine LeO.bind ?_ (fun _ => ?_))
   | exact ih0 _ _ _ _ _
   | exact ih1 _ _ _ _ _ _ _ _ _
   | exact ih2 _ _ _ _ _ _
   | exact impl_GoodCircuit.mono _ _ _ _
   | exact LeO.none _ | refine LeO.ite ?_ ?_ | refine LeO.bind ?_ (fun _ => ?_)
def impl_CnfFor.T7 : Bool × List (List Nat × List Nat) := (true, [([], []), ([0], [0]), ([], []), ([], []), ([3], [3]), ([], []), ([4, 5], [4, 5]), ([6], [6]), ([2, 7], [2, 7]), ([1, 8, 8], [1, 8]), ([0, 1, 2, 3, 4, 5, 6, 7, 8, 9], []), ([10, 9, 9, 0, 1, 2, 3, 4, 5, 6, 7, 8, 9], [9, 10])])
def impl_CnfFor.B7 : List Nat := [0, 1, 0, 0, 8, 0, 56, 120, 252, 511, 1023, 2047]
theorem impl_CnfFor.tab7 : rtab .any (opsOf Try.f8 7) = impl_CnfFor.T7 := by kernel_rfl
theorem impl_CnfFor.bits7 : waitsOk impl_CnfFor.T7.2 impl_CnfFor.B7 = true := by kernel_rfl
set_option maxHeartbeats 8000000 in
set_option maxRecDepth 100000 in
theorem impl_CnfFor.calls (k : Nat) (a0_0 : Int) (A0_1 : Option Addr) (c0_1 : Nat) (l0_1 : List (S54)) (A0_2 : Option Addr) (c0_2 : Nat) (l0_2 : List Int) (A1 : Option Addr) (c1 : Nat) (l1 : List Bool) (r1 : Int) (r2 : List (List Int)) (r3 : Bool) (w : World) (hr0_1 : Kd.C k54 w A0_1 l0_1.length l0_1) (hc0_1 : l0_1.length ≤ c0_1) (hr0_2 : Kd.C (Kd.int .i64) w A0_2 l0_2.length l0_2) (hc0_2 : l0_2.length ≤ c0_2) (hr1 : Kd.C Kd.bool w A1 l1.length l1) (hc1 : l1.length ≤ c1) (h : impl_CnfFor.f k a0_0 l0_1 l0_2 l1 = some (r1, r2, r3)) :
  Calls Try.prog 8 #[.agg #[.int .i64 a0_0, .slice A0_1 l0_1.length c0_1, .slice A0_2 l0_2.length c0_2], .slice A1 l1.length c1] w fun e w' => ∃ v1_ : Value, e = .returned (.tuple #[.agg #[.int .i64 r1, v1_], .bool r3]) ∧ Kd.S (Kd.slice 3 (Kd.int .i64)) 23 w' w.heap.size (fun _ => True) v1_ r2 ∧ Below w.heap.size w w' := by
 have hu35 := Try.underlying35
 have hu30 := Try.underlying30
 have hu54 := Try.underlying54
 have HR0_1 := Aside0.mk hr0_1
 have HC0_1 := Aside0.mk hc0_1
 clear hr0_1 hc0_1
 have HR0_2 := Aside0.mk hr0_2
 have HC0_2 := Aside0.mk hc0_2
 clear hr0_2 hc0_2
 have HR1 := Aside0.mk hr1
 have HC1 := Aside0.mk hc1
 clear hr1 hc1
 have HB := Aside0.mk (Below.refl w.heap.size w)
 have H : ((impl_GoodCircuit.f k a0_0 l0_1 l0_2).bind fun t336 => (if t336 = true then (impl_CnfFor.j0 k l1 ((l1.length : Int) != (l0_2.length : Int)) a0_0 l0_1 l0_2) else (impl_CnfFor.j0 k l1 true a0_0 l0_1 l0_2))) = some (r1, r2, r3) := h
 clear h
 have HC3 := Aside0.mk H
 clear H
 go_enter Try.func8, Try.ntmps8
 go_upto_region 1 with (first | ((with_reducible refine gate_dst (N := 2) rfl ?_); (try (refine gate_guard (by rfl) ?_; dsimp only)); refine box_event ?hg (N := 2) ?hd (cs := #[.int .i64 a0_0, .slice A0_1 l0_1.length c0_1, .slice A0_2 l0_2.length c0_2]) (t := 35) ?hr ?_; (case hd => rfl); (case hg => rfl); (case hr => first | (go_simp; done) | (go_simp; rfl)); intro gb334 hg w4 hbox hb; have n0_ := Aside0.mk (below_step (qB) hb); have n1_ := Aside0.mk (hbox); have n2_ := Aside0.mk ((by rw [hg]; exact (below_size (qB)) : w.heap.size ≤ gb334)); have n3_ := Aside0.mk ((by rw [hg]; exact (below_size (qB)) : w.heap.size ≤ gb334)); clear HB; have HB := n0_; have BK334 := n1_; have GW334 := n2_; have GE334 := n3_; clear n0_ n1_ n2_ n3_; clear hb hbox hg) | ((with_reducible refine gate_dst (N := 4) rfl ?_); (try (refine gate_guard (by rfl) ?_; dsimp only)); refine box_event ?hg (N := 4) ?hd (cs := #[.int .i64 0, .slice none 0 0]) (t := 30) ?hr ?_; (case hd => rfl); (case hg => rfl); (case hr => first | (go_simp; done) | (go_simp; rfl)); intro gb335 hg w5 hbox hb; have n0_ := Aside0.mk (blk_below (g := gb334) (o := .cells #[.int .i64 a0_0, .slice A0_1 l0_1.length c0_1, .slice A0_2 l0_2.length c0_2] 35 (0, 0)) (qK BK334.out) hb); have n1_ := Aside0.mk (below_step (qB) hb); have n2_ := Aside0.mk (hbox); have n3_ := Aside0.mk ((by rw [hg]; exact (below_size (qB)) : w.heap.size ≤ gb335)); have n4_ := Aside0.mk ((by rw [hg]; exact (below_size (qB)) : w.heap.size ≤ gb335)); have n5_ := Aside0.mk ((by rw [hg]; exact Nat.ne_of_lt (blk_lt (g := gb334) (o := .cells #[.int .i64 a0_0, .slice A0_1 l0_1.length c0_1, .slice A0_2 l0_2.length c0_2] 35 (0, 0)) (qK BK334.out)) : gb334 ≠ gb335)); have n6_ := Aside0.mk ((by rw [hg]; exact Nat.ne_of_gt (blk_lt (g := gb334) (o := .cells #[.int .i64 a0_0, .slice A0_1 l0_1.length c0_1, .slice A0_2 l0_2.length c0_2] 35 (0, 0)) (qK BK334.out)) : gb335 ≠ gb334)); clear BK334; clear HB; have BK334 := n0_; have HB := n1_; have BK335 := n2_; have GW335 := n3_; have GE335 := n4_; have NB334_335 := n5_; have NB335_334 := n6_; clear n0_ n1_ n2_ n3_ n4_ n5_ n6_; clear hb hbox hg))
 (try simp only [Act.put, List.setIfInBounds_toArray, List.set_cons_zero, List.set_cons_succ])
 go_cut [21] (fun v21 wc => ∃ (kq : Nat) (x21_2 : Bool), v21 = .bool x21_2 ∧ Aside0 (impl_CnfFor.j0 kq l1 x21_2 a0_0 l0_1 l0_2 = some (r1, r2, r3)) ∧ Aside0 (kq ≤ k) ∧ Aside0 (wc.heap[gb334]? = some (.cells #[.int .i64 a0_0, (.slice A0_1 l0_1.length c0_1), (.slice A0_2 l0_2.length c0_2)] 35 (0, 0))) ∧ Aside0 (wc.heap[gb335]? = some (.cells #[.int .i64 0, (.slice none 0 0)] 30 (0, 0))) ∧ Aside0 (Below w.heap.size w wc))
 case first =>
  have H := HC3.out
  clear HC3
  replace H := Option.bind_eq_some_iff.mp H
  obtain ⟨t336, A60, H⟩ := H
  replace H : (if t336 = true then (impl_CnfFor.j0 k l1 ((l1.length : Int) != (l0_2.length : Int)) a0_0 l0_1 l0_2) else (impl_CnfFor.j0 k l1 true a0_0 l0_1 l0_2)) = some (r1, r2, r3) := H
  have A6 := Aside0.mk A60
  clear A60
  by_cases c7 : t336 = true
  ·subst c7
   have H1 : (impl_CnfFor.j0 k l1 ((l1.length : Int) != (l0_2.length : Int)) a0_0 l0_1 l0_2) = some (r1, r2, r3) := by rw [if_pos rfl] at H; exact H
   clear H
   have H := H1
   clear H1
   have H' := Aside0.mk H
   clear H
   have hnb8 := NB334_335.out
   have hnc8 := NB335_334.out
   have hcz9_0 : w5.cell? ⟨gb334, 0, none⟩ = some (.int .i64 a0_0) := (blk_cell BK334.out 0).trans rfl
   have hcz9_1 : w5.cell? ⟨gb334, 1, none⟩ = some (.slice A0_1 l0_1.length c0_1) := (blk_cell BK334.out 1).trans rfl
   have hcz9_2 : w5.cell? ⟨gb334, 2, none⟩ = some (.slice A0_2 l0_2.length c0_2) := (blk_cell BK334.out 2).trans rfl
   have hfz9_0 := blk_frozen BK334.out 0
   have hfz9_1 := blk_frozen BK334.out 1
   have hfz9_2 := blk_frozen BK334.out 2
   go_wp2_with (first | ((with_reducible refine gate_callee (f := 23) rfl ?_); refine goesL_ (some 12) rfl rfl Try.func23 (by kernel_rfl) rfl #[.agg #[.int .i64 a0_0, .slice A0_1 l0_1.length c0_1, .slice A0_2 l0_2.length c0_2]] rfl qG ?_; (with_reducible refine (impl_GoodCircuit.calls k a0_0 _ _ l0_1 _ _ l0_2 true _ ?side1 ?side2 ?side3 ?side4 A6.out).mono ?_); (case side1 => exact qC (Kd.C_below HR0_1.out HB.out)); (case side2 => exact HC0_1.out); (case side3 => exact qC (Kd.C_below HR0_2.out HB.out)); (case side4 => exact HC0_2.out); rintro e w10 ⟨rfl, hb⟩; refine ⟨_, rfl, ?_⟩; have n0_ := Aside0.mk (blk_below (g := gb334) (o := .cells #[.int .i64 a0_0, .slice A0_1 l0_1.length c0_1, .slice A0_2 l0_2.length c0_2] 35 (0, 0)) (qK BK334.out) hb); have n1_ := Aside0.mk (blk_below (g := gb335) (o := .cells #[.int .i64 0, .slice none 0 0] 30 (0, 0)) (qK BK335.out) hb); have n2_ := Aside0.mk (below_step (qB) hb); clear BK334; clear BK335; clear HB; have BK334 := n0_; have BK335 := n1_; have HB := n2_; clear n0_ n1_ n2_; (try clear hb); (try clear hb2); (try clear hk); (try clear hi); have hcz11_0 : w10.cell? ⟨gb334, 0, none⟩ = some (.int .i64 a0_0) := (blk_cell BK334.out 0).trans rfl; have hcz11_1 : w10.cell? ⟨gb334, 1, none⟩ = some (.slice A0_1 l0_1.length c0_1) := (blk_cell BK334.out 1).trans rfl; have hcz11_2 : w10.cell? ⟨gb334, 2, none⟩ = some (.slice A0_2 l0_2.length c0_2) := (blk_cell BK334.out 2).trans rfl; have hfz11_0 := blk_frozen BK334.out 0; have hfz11_1 := blk_frozen BK334.out 1; have hfz11_2 := blk_frozen BK334.out 2))
   go_meet
   case rel => exact ⟨_, (((l1.length : Int) != (l0_2.length : Int))), qS, H', ⟨by first | omega | exact Nat.le_refl _⟩, ⟨by exact qK BK334.out⟩, ⟨by exact qK BK335.out⟩, ⟨qB⟩⟩
  ·replace c7 := Bool.eq_false_iff.mpr c7
   subst c7
   have H1 : (impl_CnfFor.j0 k l1 true a0_0 l0_1 l0_2) = some (r1, r2, r3) := by rw [if_neg (show ¬ (false = true) by decide)] at H; exact H
   clear H
   have H := H1
   clear H1
   have H' := Aside0.mk H
   clear H
   have hnb12 := NB334_335.out
   have hnc12 := NB335_334.out
   have hcz13_0 : w5.cell? ⟨gb334, 0, none⟩ = some (.int .i64 a0_0) := (blk_cell BK334.out 0).trans rfl
   have hcz13_1 : w5.cell? ⟨gb334, 1, none⟩ = some (.slice A0_1 l0_1.length c0_1) := (blk_cell BK334.out 1).trans rfl
   have hcz13_2 : w5.cell? ⟨gb334, 2, none⟩ = some (.slice A0_2 l0_2.length c0_2) := (blk_cell BK334.out 2).trans rfl
   have hfz13_0 := blk_frozen BK334.out 0
   have hfz13_1 := blk_frozen BK334.out 1
   have hfz13_2 := blk_frozen BK334.out 2
   go_wp2_with (first | ((with_reducible refine gate_callee (f := 23) rfl ?_); refine goesL_ (some 12) rfl rfl Try.func23 (by kernel_rfl) rfl #[.agg #[.int .i64 a0_0, .slice A0_1 l0_1.length c0_1, .slice A0_2 l0_2.length c0_2]] rfl qG ?_; (with_reducible refine (impl_GoodCircuit.calls k a0_0 _ _ l0_1 _ _ l0_2 false _ ?side1 ?side2 ?side3 ?side4 A6.out).mono ?_); (case side1 => exact qC (Kd.C_below HR0_1.out HB.out)); (case side2 => exact HC0_1.out); (case side3 => exact qC (Kd.C_below HR0_2.out HB.out)); (case side4 => exact HC0_2.out); rintro e w14 ⟨rfl, hb⟩; refine ⟨_, rfl, ?_⟩; have n0_ := Aside0.mk (blk_below (g := gb334) (o := .cells #[.int .i64 a0_0, .slice A0_1 l0_1.length c0_1, .slice A0_2 l0_2.length c0_2] 35 (0, 0)) (qK BK334.out) hb); have n1_ := Aside0.mk (blk_below (g := gb335) (o := .cells #[.int .i64 0, .slice none 0 0] 30 (0, 0)) (qK BK335.out) hb); have n2_ := Aside0.mk (below_step (qB) hb); clear BK334; clear BK335; clear HB; have BK334 := n0_; have BK335 := n1_; have HB := n2_; clear n0_ n1_ n2_; (try clear hb); (try clear hb2); (try clear hk); (try clear hi)))
   go_meet
   case rel => exact ⟨_, (true), qS, H', ⟨by first | omega | exact Nat.le_refl _⟩, ⟨by exact qK BK334.out⟩, ⟨by exact qK BK335.out⟩, ⟨qB⟩⟩
 case rest =>
  clear HC3
  try clear c1
  try clear c2
  try clear p2
  try clear c7
  try clear c8
  try clear c12
  try clear hcz11_0
  try clear hcz11_1
  try clear hcz11_2
  try clear hcz13_0
  try clear hcz13_1
  try clear hcz13_2
  try clear hcz9_0
  try clear hcz9_1
  try clear hcz9_2
  try clear hfz11_0
  try clear hfz11_1
  try clear hfz11_2
  try clear hfz13_0
  try clear hfz13_1
  try clear hfz13_2
  try clear hfz9_0
  try clear hfz9_1
  try clear hfz9_2
  obtain ⟨kq, x21_2, rfl, HA, HJ2, BK334, BK335, HB⟩ := hcut
  cases kq with
  | zero => exact absurd HA.out (by simp [impl_CnfFor.j0])
  | succ kj2 =>
   have H := HA.out
   clear HA
   simp only [impl_CnfFor.j0] at H
   by_cases c15 : x21_2 = true
   ·subst c15
    have H1 : (some (0, ([] : List (List Int)), false)) = some (r1, r2, r3) := by rw [if_pos rfl] at H; exact H
    clear H
    have H := H1
    clear H1
    simp only [Option.some.injEq, Prod.mk.injEq] at H
    obtain ⟨rfl, rfl, rfl⟩ := H
    have hnb16 := NB335_334.out
    have hnc16 := NB334_335.out
    have hcz17_0 : wc.cell? ⟨gb335, 0, none⟩ = some (.int .i64 0) := (blk_cell BK335.out 0).trans rfl
    have hcz17_1 : wc.cell? ⟨gb335, 1, none⟩ = some (.slice none 0 0) := (blk_cell BK335.out 1).trans rfl
    have hfz17_0 := blk_frozen BK335.out 0
    have hfz17_1 := blk_frozen BK335.out 1
    go_wp2
    refine bodyPost_ret (results_ct rfl _ _ gb335 30 #[.int .i64 0, .slice none 0 0] (0, 0) _ rfl (by (with_reducible repeat (first | refine blk_drewN ?_ _ | refine blk_drew ?_ | refine blk_alloc ?_ _)); refine blk_put (cs := #[.int .i64 0, .slice none 0 0]) ?_ 1 _ rfl; refine blk_put (cs := #[.int .i64 0, .slice none 0 0]) ?_ 0 _ rfl; exact qK BK335.out) Try.underlying30 rfl (by kernel_rfl)) rfl ?_
    exact ⟨_, qE, by first | exact Kd.S_nil _ _ _ _ _ | exact Kd.S_nil _ _ _ _ _ | exact Kd.V_nil _ _ _ _ _ | exact Kd.Q_nil _ _ _ _ _ | exact Kd.R_nil _ _ _ _ _, qB⟩
   ·replace c15 := Bool.eq_false_iff.mpr c15
    subst c15
    have H1 : ((impl_Circuit_wires.f a0_0 l0_1 l0_2).bind fun t337 => (impl_CnfFor.l0 kj2 l1 l0_1 (l0_1.length : Int) 0 a0_0 l0_1 l0_2 t337 ([] : List (List Int)))) = some (r1, r2, r3) := by rw [if_neg (show ¬ (false = true) by decide)] at H; exact H
    clear H
    have H := H1
    clear H1
    replace H := Option.bind_eq_some_iff.mp H
    obtain ⟨t337, A180, H⟩ := H
    replace H : (impl_CnfFor.l0 kj2 l1 l0_1 (l0_1.length : Int) 0 a0_0 l0_1 l0_2 t337 ([] : List (List Int))) = some (r1, r2, r3) := H
    have A18 := Aside0.mk A180
    clear A180
    have H' := Aside0.mk H
    clear H
    have hnb19 := NB334_335.out
    have hnc19 := NB335_334.out
    have hcz20_0 : wc.cell? ⟨gb334, 0, none⟩ = some (.int .i64 a0_0) := (blk_cell BK334.out 0).trans rfl
    have hcz20_1 : wc.cell? ⟨gb334, 1, none⟩ = some (.slice A0_1 l0_1.length c0_1) := (blk_cell BK334.out 1).trans rfl
    have hcz20_2 : wc.cell? ⟨gb334, 2, none⟩ = some (.slice A0_2 l0_2.length c0_2) := (blk_cell BK334.out 2).trans rfl
    have hfz20_0 := blk_frozen BK334.out 0
    have hfz20_1 := blk_frozen BK334.out 1
    have hfz20_2 := blk_frozen BK334.out 2
    go_wp2_with (first | ((with_reducible refine gate_callee (f := 24) rfl ?_); refine goesL_ (some 24) rfl rfl Try.func24 (by kernel_rfl) rfl #[.agg #[.int .i64 a0_0, .slice A0_1 l0_1.length c0_1, .slice A0_2 l0_2.length c0_2]] rfl qG ?_; (with_reducible refine (impl_Circuit_wires.calls a0_0 _ _ l0_1 _ _ l0_2 t337 _ ?side1 ?side2 ?side3 ?side4 A18.out).mono ?_); (case side1 => exact qC (Kd.C_below HR0_1.out HB.out)); (case side2 => exact HC0_1.out); (case side3 => exact qC (Kd.C_below HR0_2.out HB.out)); (case side4 => exact HC0_2.out); rintro e w21 ⟨rfl, hb⟩; refine ⟨_, rfl, ?_⟩; have n0_ := Aside0.mk (blk_below (g := gb334) (o := .cells #[.int .i64 a0_0, .slice A0_1 l0_1.length c0_1, .slice A0_2 l0_2.length c0_2] 35 (0, 0)) (qK BK334.out) hb); have n1_ := Aside0.mk (blk_below (g := gb335) (o := .cells #[.int .i64 0, .slice none 0 0] 30 (0, 0)) (qK BK335.out) hb); have n2_ := Aside0.mk (below_step (qB) hb); clear BK334; clear BK335; clear HB; have BK334 := n0_; have BK335 := n1_; have HB := n2_; clear n0_ n1_ n2_; (try clear hb); (try clear hb2); (try clear hk); (try clear hi)) | ((with_reducible refine gate_dst (N := 6) rfl ?_); (try (refine gate_guard (by rfl) ?_; dsimp only)); refine box_event ?hg (N := 6) ?hd (cs := #[.int .i64 0, .slice none 0 0]) (t := 30) ?hr ?_; (case hd => rfl); (case hg => rfl); (case hr => first | (go_simp; done) | (go_simp; rfl)); intro gb338 hg w22 hbox hb; have n0_ := Aside0.mk (blk_below (g := gb334) (o := .cells #[.int .i64 a0_0, .slice A0_1 l0_1.length c0_1, .slice A0_2 l0_2.length c0_2] 35 (0, 0)) (qK BK334.out) hb); have n1_ := Aside0.mk (blk_below (g := gb335) (o := .cells #[.int .i64 0, .slice none 0 0] 30 (0, 0)) (qK BK335.out) hb); have n2_ := Aside0.mk (below_step (qB) hb); have n3_ := Aside0.mk (hbox); have n4_ := Aside0.mk ((by rw [hg]; exact (below_size (qB)) : w.heap.size ≤ gb338)); have n5_ := Aside0.mk ((by rw [hg]; exact (below_size (qB)) : w.heap.size ≤ gb338)); have n6_ := Aside0.mk ((by rw [hg]; exact Nat.ne_of_lt (blk_lt (g := gb334) (o := .cells #[.int .i64 a0_0, .slice A0_1 l0_1.length c0_1, .slice A0_2 l0_2.length c0_2] 35 (0, 0)) (qK BK334.out)) : gb334 ≠ gb338)); have n7_ := Aside0.mk ((by rw [hg]; exact Nat.ne_of_gt (blk_lt (g := gb334) (o := .cells #[.int .i64 a0_0, .slice A0_1 l0_1.length c0_1, .slice A0_2 l0_2.length c0_2] 35 (0, 0)) (qK BK334.out)) : gb338 ≠ gb334)); have n8_ := Aside0.mk ((by rw [hg]; exact Nat.ne_of_lt (blk_lt (g := gb335) (o := .cells #[.int .i64 0, .slice none 0 0] 30 (0, 0)) (qK BK335.out)) : gb335 ≠ gb338)); have n9_ := Aside0.mk ((by rw [hg]; exact Nat.ne_of_gt (blk_lt (g := gb335) (o := .cells #[.int .i64 0, .slice none 0 0] 30 (0, 0)) (qK BK335.out)) : gb338 ≠ gb335)); clear BK334; clear BK335; clear HB; have BK334 := n0_; have BK335 := n1_; have HB := n2_; have BK338 := n3_; have GW338 := n4_; have GE338 := n5_; have NB334_338 := n6_; have NB338_334 := n7_; have NB335_338 := n8_; have NB338_335 := n9_; clear n0_ n1_ n2_ n3_ n4_ n5_ n6_ n7_ n8_ n9_; clear hb hbox hg; have hnb23 := NB338_334.out; have hnc23 := NB334_338.out; have hnb24 := NB338_335.out; have hnc24 := NB335_338.out; have hcz25_0 : w22.cell? ⟨gb338, 0, none⟩ = some (.int .i64 0) := (blk_cell BK338.out 0).trans rfl; have hcz25_1 : w22.cell? ⟨gb338, 1, none⟩ = some (.slice none 0 0) := (blk_cell BK338.out 1).trans rfl; have hfz25_0 := blk_frozen BK338.out 0; have hfz25_1 := blk_frozen BK338.out 1; have hcz26_0 : w22.cell? ⟨gb334, 0, none⟩ = some (.int .i64 a0_0) := (blk_cell BK334.out 0).trans rfl; have hcz26_1 : w22.cell? ⟨gb334, 1, none⟩ = some (.slice A0_1 l0_1.length c0_1) := (blk_cell BK334.out 1).trans rfl; have hcz26_2 : w22.cell? ⟨gb334, 2, none⟩ = some (.slice A0_2 l0_2.length c0_2) := (blk_cell BK334.out 2).trans rfl; have hfz26_0 := blk_frozen BK334.out 0; have hfz26_1 := blk_frozen BK334.out 1; have hfz26_2 := blk_frozen BK334.out 2))
    go_loopg [29] kj2 (fun kq v29 w' => ∃ (x29_2 : Int) (x339001_2 : List (List Int)) (u339001 : Value), v29 = .int .i64 x29_2 ∧ Aside0 (impl_CnfFor.l0 kq l1 l0_1 (l0_1.length : Int) x29_2 a0_0 l0_1 l0_2 t337 x339001_2 = some (r1, r2, r3)) ∧ Aside0 (kq ≤ kj2) ∧ Aside0 (Kd.S (Kd.slice 3 (Kd.int .i64)) 23 w' w.heap.size (fun k_ => (w.heap.size ≤ k_) ∧ k_ ≠ gb334 ∧ k_ ≠ gb335 ∧ k_ ≠ gb338) u339001 x339001_2) ∧ Aside0 (w'.heap[gb334]? = some (.cells #[.int .i64 a0_0, (.slice A0_1 l0_1.length c0_1), (.slice A0_2 l0_2.length c0_2)] 35 (0, 0))) ∧ Aside0 (w'.heap[gb335]? = some (.cells #[.int .i64 0, (.slice none 0 0)] 30 (0, 0))) ∧ Aside0 (w'.heap[gb338]? = some (.cells #[.int .i64 t337, u339001] 30 (0, 0))) ∧ Aside0 (Below w.heap.size w w'))
    case atStart => exact ⟨(0), (([] : List (List Int))), (.slice none 0 0), qS, H', ⟨Nat.le_refl _⟩, ⟨by first | exact Kd.S_nil _ _ _ _ _ | exact Kd.S_nil _ _ _ _ _ | exact Kd.V_nil _ _ _ _ _ | exact Kd.Q_nil _ _ _ _ _ | exact Kd.R_nil _ _ _ _ _⟩, ⟨by (with_reducible repeat (first | refine blk_drewN ?_ _ | refine blk_drew ?_ | refine blk_alloc ?_ _)); refine blk_far ?_ NB334_338.out _; (with_reducible repeat (first | refine blk_drewN ?_ _ | refine blk_drew ?_ | refine blk_alloc ?_ _)); refine blk_far ?_ NB334_338.out _; exact qK BK334.out⟩, ⟨by (with_reducible repeat (first | refine blk_drewN ?_ _ | refine blk_drew ?_ | refine blk_alloc ?_ _)); refine blk_far ?_ NB335_338.out _; (with_reducible repeat (first | refine blk_drewN ?_ _ | refine blk_drew ?_ | refine blk_alloc ?_ _)); refine blk_far ?_ NB335_338.out _; exact qK BK335.out⟩, ⟨by (with_reducible repeat (first | refine blk_drewN ?_ _ | refine blk_drew ?_ | refine blk_alloc ?_ _)); refine blk_put (cs := #[.int .i64 t337, .slice none 0 0]) ?_ 1 _ rfl; refine blk_put (cs := #[.int .i64 0, .slice none 0 0]) ?_ 0 _ rfl; exact qK BK338.out⟩, ⟨qB⟩⟩
    case round =>
     clear H'
     try clear c1
     try clear c2
     try clear p2
     try clear c7
     try clear c8
     try clear c12
     try clear c15
     try clear c16
     try clear c19
     try clear c23
     try clear c24
     try clear hcz11_0
     try clear hcz11_1
     try clear hcz11_2
     try clear hcz13_0
     try clear hcz13_1
     try clear hcz13_2
     try clear hcz17_0
     try clear hcz17_1
     try clear hcz20_0
     try clear hcz20_1
     try clear hcz20_2
     try clear hcz25_0
     try clear hcz25_1
     try clear hcz26_0
     try clear hcz26_1
     try clear hcz26_2
     try clear hcz9_0
     try clear hcz9_1
     try clear hcz9_2
     try clear hfz11_0
     try clear hfz11_1
     try clear hfz11_2
     try clear hfz13_0
     try clear hfz13_1
     try clear hfz13_2
     try clear hfz17_0
     try clear hfz17_1
     try clear hfz20_0
     try clear hfz20_1
     try clear hfz20_2
     try clear hfz25_0
     try clear hfz25_1
     try clear hfz26_0
     try clear hfz26_1
     try clear hfz26_2
     try clear hfz9_0
     try clear hfz9_1
     try clear hfz9_2
     try clear p2
     obtain ⟨x29_2, x339001_2, u339001, rfl, HA, HK2, HO_339001, BK334, BK335, BK338, HB⟩ := hrel
     cases gk with
     | zero => exact absurd HA.out (by simp [impl_CnfFor.l0])
     | succ k2 =>
      have H := HA.out
      clear HA
      simp only [impl_CnfFor.l0] at H
      by_cases c27 : x29_2 < (l0_1.length : Int)
      ·rw [if_pos c27] at H
       have c27b0 : decide (x29_2 < (l0_1.length : Int)) = true := decide_eq_true c27
       clear c27
       by_cases c28 : 0 ≤ x29_2
       ·rw [if_pos c28] at H
        have c28b0 : decide (0 ≤ x29_2) = true := decide_eq_true c28
        clear c28
        by_cases c29 : x29_2 < (l0_1.length : Int)
        ·rw [if_pos c29] at H
         have c29b0 : decide (x29_2 < (l0_1.length : Int)) = true := decide_eq_true c29
         clear c29
         replace H := Option.bind_eq_some_iff.mp H
         obtain ⟨t341, A300, H⟩ := H
         replace H : (if x339001_2.length + t341.length < 5864062014805 then (impl_CnfFor.l0 k2 l1 l0_1 (l0_1.length : Int) (wrap64 (x29_2 + 1)) a0_0 l0_1 l0_2 t337 (x339001_2 ++ t341)) else (none)) = some (r1, r2, r3) := H
         have A30 := Aside0.mk A300
         clear A300
         by_cases c31 : x339001_2.length + t341.length < 5864062014805
         ·rw [if_pos c31] at H
          have LMc31 := Aside0.mk c31
          clear c31
          obtain ⟨y344, hy344⟩ : ∃ y_ : List (List Int), y_ = (x339001_2 ++ t341) := ⟨_, rfl⟩
          replace H : (impl_CnfFor.l0 k2 l1 l0_1 (l0_1.length : Int) (wrap64 (x29_2 + 1)) a0_0 l0_1 l0_2 t337 y344) = some (r1, r2, r3) := qY hy344 H
          have Ny344 := Aside0.mk hy344
          clear hy344
          have H' := Aside0.mk H
          clear H
          have p339 : 0 ≤ (x29_2 : Int) := qD
          have q339 : x29_2 < (l0_1.length : Int) := qD
          obtain ⟨ad339, e339, hx339_0, hx339_1, hx339_2⟩ := at_T54 HR0_1.out x29_2 p339 q339
          cases e339
          replace hx339_0 := (HB.out.cell (World.block_lt_of_cell? w _ hx339_0)).trans hx339_0
          replace hx339_1 := (HB.out.cell (World.block_lt_of_cell? w _ hx339_1)).trans hx339_1
          replace hx339_2 := (HB.out.cell (World.block_lt_of_cell? w _ hx339_2)).trans hx339_2
          replace p339 := eq_true p339
          replace q339 := eq_true q339
          try go_wp2_with (first | ((with_reducible refine gate_dst (N := 8) rfl ?_); (try (refine gate_guard (by rfl) ?_; dsimp only)); refine box_event ?hg (N := 8) ?hd (cs := #[.int .i64 0, .int .i64 0, .int .i64 0]) (t := 54) ?hr ?_; (case hd => rfl); (case hg => rfl); (case hr => first | (go_simp; done) | (go_simp; rfl)); intro gb340 hg w32 hbox hb; have n0_ := Aside0.mk (Kd.S_below (Kd.S_elderB (by (with_reducible repeat (first | apply Kd.S_alloc | apply Kd.S_drewN | apply Kd.S_drew)); exact HO_339001.out) gb340 (Nat.le_of_eq hg.symm)) hb); have n1_ := Aside0.mk (blk_below (g := gb334) (o := .cells #[.int .i64 a0_0, .slice (some ad339) l0_1.length c0_1, .slice A0_2 l0_2.length c0_2] 35 (0, 0)) (qK BK334.out) hb); have n2_ := Aside0.mk (blk_below (g := gb335) (o := .cells #[.int .i64 0, .slice none 0 0] 30 (0, 0)) (qK BK335.out) hb); have n3_ := Aside0.mk (blk_below (g := gb338) (o := .cells #[.int .i64 t337, u339001] 30 (0, 0)) (qK BK338.out) hb); have n4_ := Aside0.mk (below_step (qB) hb); have n5_ := Aside0.mk (hbox); have n6_ := Aside0.mk ((by rw [hg]; exact (below_size (qB)) : w.heap.size ≤ gb340)); have n7_ := Aside0.mk ((by rw [hg]; exact (below_size (qB)) : w.heap.size ≤ gb340)); have n8_ := Aside0.mk ((by rw [hg]; exact Nat.ne_of_lt (blk_lt (g := gb334) (o := .cells #[.int .i64 a0_0, .slice (some ad339) l0_1.length c0_1, .slice A0_2 l0_2.length c0_2] 35 (0, 0)) (qK BK334.out)) : gb334 ≠ gb340)); have n9_ := Aside0.mk ((by rw [hg]; exact Nat.ne_of_gt (blk_lt (g := gb334) (o := .cells #[.int .i64 a0_0, .slice (some ad339) l0_1.length c0_1, .slice A0_2 l0_2.length c0_2] 35 (0, 0)) (qK BK334.out)) : gb340 ≠ gb334)); have n10_ := Aside0.mk ((by rw [hg]; exact Nat.ne_of_lt (blk_lt (g := gb335) (o := .cells #[.int .i64 0, .slice none 0 0] 30 (0, 0)) (qK BK335.out)) : gb335 ≠ gb340)); have n11_ := Aside0.mk ((by rw [hg]; exact Nat.ne_of_gt (blk_lt (g := gb335) (o := .cells #[.int .i64 0, .slice none 0 0] 30 (0, 0)) (qK BK335.out)) : gb340 ≠ gb335)); have n12_ := Aside0.mk ((by rw [hg]; exact Nat.ne_of_lt (blk_lt (g := gb338) (o := .cells #[.int .i64 t337, u339001] 30 (0, 0)) (qK BK338.out)) : gb338 ≠ gb340)); have n13_ := Aside0.mk ((by rw [hg]; exact Nat.ne_of_gt (blk_lt (g := gb338) (o := .cells #[.int .i64 t337, u339001] 30 (0, 0)) (qK BK338.out)) : gb340 ≠ gb338)); clear HO_339001; clear BK334; clear BK335; clear BK338; clear HB; have HO_339001 := n0_; have BK334 := n1_; have BK335 := n2_; have BK338 := n3_; have HB := n4_; have BK340 := n5_; have GW340 := n6_; have GE340 := n7_; have NB334_340 := n8_; have NB340_334 := n9_; have NB335_340 := n10_; have NB340_335 := n11_; have NB338_340 := n12_; have NB340_338 := n13_; clear n0_ n1_ n2_ n3_ n4_ n5_ n6_ n7_ n8_ n9_ n10_ n11_ n12_ n13_; clear hb hbox hg; have hnb33 := NB340_334.out; have hnc33 := NB334_340.out; have hnb34 := NB340_335.out; have hnc34 := NB335_340.out; have hnb35 := NB340_338.out; have hnc35 := NB338_340.out; have hcz36_0 : w32.cell? ⟨gb340, 0, none⟩ = some (.int .i64 0) := (blk_cell BK340.out 0).trans rfl; have hcz36_1 : w32.cell? ⟨gb340, 1, none⟩ = some (.int .i64 0) := (blk_cell BK340.out 1).trans rfl; have hcz36_2 : w32.cell? ⟨gb340, 2, none⟩ = some (.int .i64 0) := (blk_cell BK340.out 2).trans rfl; have hfz36_0 := blk_frozen BK340.out 0; have hfz36_1 := blk_frozen BK340.out 1; have hfz36_2 := blk_frozen BK340.out 2))
          have n0_ : Aside0 (Kd.S (Kd.slice 3 (Kd.int .i64)) 23 (((w32.setCell ⟨gb340, 0, none⟩ (.int .i64 ((rd_T54 l0_1 x29_2).f0))).setCell ⟨gb340, 1, none⟩ (.int .i64 ((rd_T54 l0_1 x29_2).f1))).setCell ⟨gb340, 2, none⟩ (.int .i64 ((rd_T54 l0_1 x29_2).f2))) w.heap.size (fun k_ => (w.heap.size ≤ k_) ∧ k_ ≠ gb334 ∧ k_ ≠ gb335 ∧ k_ ≠ gb338 ∧ k_ ≠ gb340) u339001 x339001_2) := ⟨by (with_reducible repeat (first | apply Kd.S_alloc | apply Kd.S_drewN | apply Kd.S_drew)); exact Kd.S_mono (Kd.S_far (p := ⟨gb340, 2, none⟩) (Kd.S_far (p := ⟨gb340, 1, none⟩) (Kd.S_far (p := ⟨gb340, 0, none⟩) (Kd.S_mono HO_339001.out (fun k_ hk => (⟨hk, hk.2⟩ : _ ∧ k_ ≠ gb340))) (fun _ hk => hk.2) (.int .i64 ((rd_T54 l0_1 x29_2).f0))) (fun _ hk => hk.2) (.int .i64 ((rd_T54 l0_1 x29_2).f1))) (fun _ hk => hk.2) (.int .i64 ((rd_T54 l0_1 x29_2).f2))) (fun _ hk => ⟨hk.1.1.1, ⟨hk.1.1.2.1, ⟨hk.1.1.2.2.1, ⟨hk.1.1.2.2.2, hk.1.2⟩⟩⟩⟩)⟩
          have n1_ : Aside0 ((((w32.setCell ⟨gb340, 0, none⟩ (.int .i64 ((rd_T54 l0_1 x29_2).f0))).setCell ⟨gb340, 1, none⟩ (.int .i64 ((rd_T54 l0_1 x29_2).f1))).setCell ⟨gb340, 2, none⟩ (.int .i64 ((rd_T54 l0_1 x29_2).f2))).heap[gb334]? = some (.cells #[.int .i64 a0_0, .slice (some ad339) l0_1.length c0_1, .slice A0_2 l0_2.length c0_2] 35 (0, 0))) := ⟨by (with_reducible repeat (first | refine blk_drewN ?_ _ | refine blk_drew ?_ | refine blk_alloc ?_ _)); refine blk_far ?_ NB334_340.out _; (with_reducible repeat (first | refine blk_drewN ?_ _ | refine blk_drew ?_ | refine blk_alloc ?_ _)); refine blk_far ?_ NB334_340.out _; (with_reducible repeat (first | refine blk_drewN ?_ _ | refine blk_drew ?_ | refine blk_alloc ?_ _)); refine blk_far ?_ NB334_340.out _; exact qK BK334.out⟩
          have n2_ : Aside0 ((((w32.setCell ⟨gb340, 0, none⟩ (.int .i64 ((rd_T54 l0_1 x29_2).f0))).setCell ⟨gb340, 1, none⟩ (.int .i64 ((rd_T54 l0_1 x29_2).f1))).setCell ⟨gb340, 2, none⟩ (.int .i64 ((rd_T54 l0_1 x29_2).f2))).heap[gb335]? = some (.cells #[.int .i64 0, .slice none 0 0] 30 (0, 0))) := ⟨by (with_reducible repeat (first | refine blk_drewN ?_ _ | refine blk_drew ?_ | refine blk_alloc ?_ _)); refine blk_far ?_ NB335_340.out _; (with_reducible repeat (first | refine blk_drewN ?_ _ | refine blk_drew ?_ | refine blk_alloc ?_ _)); refine blk_far ?_ NB335_340.out _; (with_reducible repeat (first | refine blk_drewN ?_ _ | refine blk_drew ?_ | refine blk_alloc ?_ _)); refine blk_far ?_ NB335_340.out _; exact qK BK335.out⟩
          have n3_ : Aside0 ((((w32.setCell ⟨gb340, 0, none⟩ (.int .i64 ((rd_T54 l0_1 x29_2).f0))).setCell ⟨gb340, 1, none⟩ (.int .i64 ((rd_T54 l0_1 x29_2).f1))).setCell ⟨gb340, 2, none⟩ (.int .i64 ((rd_T54 l0_1 x29_2).f2))).heap[gb338]? = some (.cells #[.int .i64 t337, u339001] 30 (0, 0))) := ⟨by (with_reducible repeat (first | refine blk_drewN ?_ _ | refine blk_drew ?_ | refine blk_alloc ?_ _)); refine blk_far ?_ NB338_340.out _; (with_reducible repeat (first | refine blk_drewN ?_ _ | refine blk_drew ?_ | refine blk_alloc ?_ _)); refine blk_far ?_ NB338_340.out _; (with_reducible repeat (first | refine blk_drewN ?_ _ | refine blk_drew ?_ | refine blk_alloc ?_ _)); refine blk_far ?_ NB338_340.out _; exact qK BK338.out⟩
          have n4_ : Aside0 ((((w32.setCell ⟨gb340, 0, none⟩ (.int .i64 ((rd_T54 l0_1 x29_2).f0))).setCell ⟨gb340, 1, none⟩ (.int .i64 ((rd_T54 l0_1 x29_2).f1))).setCell ⟨gb340, 2, none⟩ (.int .i64 ((rd_T54 l0_1 x29_2).f2))).heap[gb340]? = some (.cells #[.int .i64 ((rd_T54 l0_1 x29_2).f0), .int .i64 ((rd_T54 l0_1 x29_2).f1), .int .i64 ((rd_T54 l0_1 x29_2).f2)] 54 (0, 0))) := ⟨by (with_reducible repeat (first | refine blk_drewN ?_ _ | refine blk_drew ?_ | refine blk_alloc ?_ _)); refine blk_put (cs := #[.int .i64 ((rd_T54 l0_1 x29_2).f0), .int .i64 ((rd_T54 l0_1 x29_2).f1), .int .i64 0]) ?_ 2 _ rfl; refine blk_put (cs := #[.int .i64 ((rd_T54 l0_1 x29_2).f0), .int .i64 0, .int .i64 0]) ?_ 1 _ rfl; refine blk_put (cs := #[.int .i64 0, .int .i64 0, .int .i64 0]) ?_ 0 _ rfl; exact qK BK340.out⟩
          have n5_ : Aside0 (Below w.heap.size w (((w32.setCell ⟨gb340, 0, none⟩ (.int .i64 ((rd_T54 l0_1 x29_2).f0))).setCell ⟨gb340, 1, none⟩ (.int .i64 ((rd_T54 l0_1 x29_2).f1))).setCell ⟨gb340, 2, none⟩ (.int .i64 ((rd_T54 l0_1 x29_2).f2)))) := ⟨qB⟩
          (try clear HO_339001)
          (try clear BK334)
          (try clear BK335)
          (try clear BK338)
          (try clear BK340)
          (try clear HB)
          generalize (((w32.setCell ⟨gb340, 0, none⟩ (.int .i64 ((rd_T54 l0_1 x29_2).f0))).setCell ⟨gb340, 1, none⟩ (.int .i64 ((rd_T54 l0_1 x29_2).f1))).setCell ⟨gb340, 2, none⟩ (.int .i64 ((rd_T54 l0_1 x29_2).f2))) = w37 at n0_ n1_ n2_ n3_ n4_ n5_ ⊢
          have HO_339001 := n0_
          have BK334 := n1_
          have BK335 := n2_
          have BK338 := n3_
          have BK340 := n4_
          have HB := n5_
          clear n0_ n1_ n2_ n3_ n4_ n5_
          have n0_ := Aside0.mk (Kd.S_drew HO_339001.out)
          have n1_ := Aside0.mk (blk_drew BK334.out)
          have n2_ := Aside0.mk (blk_drew BK335.out)
          have n3_ := Aside0.mk (blk_drew BK338.out)
          have n4_ := Aside0.mk (blk_drew BK340.out)
          have n5_ := Aside0.mk (below_drew1 HB.out)
          clear HO_339001
          clear BK334
          clear BK335
          clear BK338
          clear BK340
          clear HB
          have HO_339001 := n0_
          have BK334 := n1_
          have BK335 := n2_
          have BK338 := n3_
          have BK340 := n4_
          have HB := n5_
          clear n0_ n1_ n2_ n3_ n4_ n5_
          refine start_ (n := 12) (S := fun w' => w'.cell? ⟨gb338, 0, none⟩ = some (.int .i64 t337) ∧ w'.cell? ⟨gb338, 1, none⟩ = some (u339001) ∧ w'.cell? ⟨gb340, 0, none⟩ = some (.int .i64 ((rd_T54 l0_1 x29_2).f0)) ∧ w'.cell? ⟨gb340, 1, none⟩ = some (.int .i64 ((rd_T54 l0_1 x29_2).f1)) ∧ w'.cell? ⟨gb340, 2, none⟩ = some (.int .i64 ((rd_T54 l0_1 x29_2).f2)) ∧ w'.cell? ⟨gb334, 0, none⟩ = some (.int .i64 a0_0) ∧ w'.cell? ⟨gb334, 1, none⟩ = some (.slice (some ad339) l0_1.length c0_1) ∧ w'.cell? ⟨gb334, 2, none⟩ = some (.slice A0_2 l0_2.length c0_2)) (ds := [11]) #[false, false, false, false, false, false, false, false, false, false, false, false] (by kernel_rfl) rfl rfl ⟨(blk_cell BK338.out 0).trans rfl, (blk_cell BK338.out 1).trans rfl, (blk_cell BK340.out 0).trans rfl, (blk_cell BK340.out 1).trans rfl, (blk_cell BK340.out 2).trans rfl, (blk_cell BK334.out 0).trans rfl, (blk_cell BK334.out 1).trans rfl, (blk_cell BK334.out 2).trans rfl⟩ (fun hHeld => ?_); refine with_tabW impl_CnfFor.tab7 impl_CnfFor.bits7 (fun HT_ HW_ => ?_)
          generalize w37.drew = w38 at HO_339001 BK334 BK335 BK338 BK340 HB hHeld ⊢
          refine pure_ (i := 0) (N := some 34) (v := ?_) (a' := ?_) #[true, false, false, false, false, false, false, false, false, false, false, false] rfl rfl (any_of HT_.out (by kernel_rfl)) (fun _ _ _ h => h) (Or.inl ⟨by rfl, ?_⟩) ?_ ?_
          rotate_left
          ·intro w'
           go_simp
           with_reducible rfl
          rotate_left
          ·simp only [Act.put, List.setIfInBounds_toArray, List.set_cons_zero, List.set_cons_succ, i64_w, i32_w]
           rfl
          refine pure_ (i := 3) (N := some 37) (v := ?_) (a' := ?_) #[true, false, false, true, false, false, false, false, false, false, false, false] rfl rfl (any_of HT_.out (by kernel_rfl)) (fun _ _ _ h => h) (Or.inl ⟨by rfl, ?_⟩) ?_ ?_
          rotate_left
          ·intro w'
           go_simp
           with_reducible rfl
          rotate_left
          ·simp only [Act.put, List.setIfInBounds_toArray, List.set_cons_zero, List.set_cons_succ, i64_w, i32_w]
           rfl
          refine pure_ (i := 5) (N := some 39) (v := ?_) (a' := ?_) #[true, false, false, true, false, true, false, false, false, false, false, false] rfl rfl (any_of HT_.out (by kernel_rfl)) (fun _ _ _ h => h) (Or.inl ⟨by rfl, ?_⟩) ?_ ?_
          rotate_left
          ·intro w'
           go_simp
           with_reducible rfl
          rotate_left
          ·simp only [Act.put, List.setIfInBounds_toArray, List.set_cons_zero, List.set_cons_succ, i64_w, i32_w]
           rfl
          refine take_ (i := 1) (N := some 35) (v := ?_) (a' := ?_) #[true, true, false, true, false, true, false, false, false, false, false, false] rfl rfl (take_ofW HT_.out HW_.out (by kernel_rfl)) (fun _ _ _ h => h) (Or.inl ⟨by rfl, ?_⟩) hHeld ?_ ?_
          rotate_left
          ·rintro w' ⟨s0, s1, s2, s3, s4, s5, s6, s7⟩
           go_simp
           with_reducible rfl
          rotate_left
          ·simp only [Act.put, List.setIfInBounds_toArray, List.set_cons_zero, List.set_cons_succ, i64_w, i32_w]
           rfl
          refine take_ (i := 2) (N := some 36) (v := ?_) (a' := ?_) #[true, true, true, true, false, true, false, false, false, false, false, false] rfl rfl (take_ofW HT_.out HW_.out (by kernel_rfl)) (fun _ _ _ h => h) (Or.inl ⟨by rfl, ?_⟩) hHeld ?_ ?_
          rotate_left
          ·rintro w' ⟨s0, s1, s2, s3, s4, s5, s6, s7⟩
           go_simp
           with_reducible rfl
          rotate_left
          ·simp only [Act.put, List.setIfInBounds_toArray, List.set_cons_zero, List.set_cons_succ, i64_w, i32_w]
           rfl
          refine take_ (i := 4) (N := some 38) (v := ?_) (a' := ?_) #[true, true, true, true, true, true, false, false, false, false, false, false] rfl rfl (take_ofW HT_.out HW_.out (by kernel_rfl)) (fun _ _ _ h => h) (Or.inl ⟨by rfl, ?_⟩) hHeld ?_ ?_
          rotate_left
          ·rintro w' ⟨s0, s1, s2, s3, s4, s5, s6, s7⟩
           go_simp
           with_reducible rfl
          rotate_left
          ·simp only [Act.put, List.setIfInBounds_toArray, List.set_cons_zero, List.set_cons_succ, i64_w, i32_w]
           rfl
          refine pure_ (i := 6) (N := some 40) (v := ?_) (a' := ?_) #[true, true, true, true, true, true, true, false, false, false, false, false] rfl rfl (any_of HT_.out (by kernel_rfl)) (fun _ _ _ h => h) (Or.inl ⟨by rfl, ?_⟩) ?_ ?_
          rotate_left
          ·intro w'
           go_simp
           with_reducible rfl
          rotate_left
          ·simp only [Act.put, List.setIfInBounds_toArray, List.set_cons_zero, List.set_cons_succ, i64_w, i32_w]
           rfl
          refine pure_ (i := 7) (N := some 41) (v := ?_) (a' := ?_) #[true, true, true, true, true, true, true, true, false, false, false, false] rfl rfl (any_of HT_.out (by kernel_rfl)) (fun _ _ _ h => h) (Or.inl ⟨by rfl, ?_⟩) ?_ ?_
          rotate_left
          ·intro w'
           go_simp
           with_reducible rfl
          rotate_left
          ·simp only [Act.put, List.setIfInBounds_toArray, List.set_cons_zero, List.set_cons_succ, i64_w, i32_w]
           rfl
          refine one_ (i := 8) (N := some 42) #[true, true, true, true, true, true, true, true, true, false, false, false] rfl rfl (one_of HT_.out (by kernel_rfl)) (by decide) (fun K hK => ?_)
          refine goes_ Try.func25 (by kernel_rfl) rfl #[.agg #[.int .i64 ((rd_T54 l0_1 x29_2).f0), .int .i64 ((rd_T54 l0_1 x29_2).f1), .int .i64 ((rd_T54 l0_1 x29_2).f2)], .int .i64 (wrap64 ((wrap64 (a0_0 + x29_2)) + 1))] (by rfl) rfl rfl qG ?_
          with_reducible refine (impl_clausesOf.calls ((rd_T54 l0_1 x29_2).f0) ((rd_T54 l0_1 x29_2).f1) ((rd_T54 l0_1 x29_2).f2) (wrap64 ((wrap64 (a0_0 + x29_2)) + 1)) t341 _ A30.out).mono ?_
          rintro e w39 ⟨v342, rfl, ho0, hb⟩
          refine ⟨_, rfl, ?_⟩
          have n0_ := Aside0.mk (Kd.S_elder' (by (with_reducible repeat (first | apply Kd.S_alloc | apply Kd.S_drewN | apply Kd.S_drew)); exact HO_339001.out) (Kd.S_base ho0) hb)
          obtain ⟨N0, hN0⟩ := sep_at hb
          have HSX := Aside0.mk (S_old_at (by (with_reducible repeat (first | apply Kd.S_alloc | apply Kd.S_drewN | apply Kd.S_drew)); exact HO_339001.out) hb hN0)
          have HSY := Aside0.mk (Kd.S_lower (Kd.S_mono (ok' := fun k_ => ((w.heap.size ≤ k_) ∧ some k_ ≠ (u339001 : Value).ownBlock ∧ k_ ≠ gb334 ∧ k_ ≠ gb335 ∧ k_ ≠ gb338 ∧ k_ ≠ gb340) ∧ N0 ≤ k_) (S_from ho0) (fun k_ hk_ => ⟨⟨(Nat.le_trans (below_size (qB)) hk_), (Kd.fresh' (Kd.S_lt (by (with_reducible repeat (first | apply Kd.S_alloc | apply Kd.S_drewN | apply Kd.S_drew)); exact HO_339001.out)) k_ hk_), (Kd.freshB (g := gb334) (o := .cells #[.int .i64 a0_0, .slice (some ad339) l0_1.length c0_1, .slice A0_2 l0_2.length c0_2] 35 (0, 0)) (qK BK334.out) k_ hk_), (Kd.freshB (g := gb335) (o := .cells #[.int .i64 0, .slice none 0 0] 30 (0, 0)) (qK BK335.out) k_ hk_), (Kd.freshB (g := gb338) (o := .cells #[.int .i64 t337, u339001] 30 (0, 0)) (qK BK338.out) k_ hk_), (Kd.freshB (g := gb340) (o := .cells #[.int .i64 ((rd_T54 l0_1 x29_2).f0), .int .i64 ((rd_T54 l0_1 x29_2).f1), .int .i64 ((rd_T54 l0_1 x29_2).f2)] 54 (0, 0)) (qK BK340.out) k_ hk_)⟩, hN0 ▸ hk_⟩)) (below_size (qB)))
          have n1_ := Aside0.mk (Kd.S_lower (Kd.S_mono (ok' := fun k_ => (w.heap.size ≤ k_) ∧ some k_ ≠ (u339001 : Value).ownBlock ∧ k_ ≠ gb334 ∧ k_ ≠ gb335 ∧ k_ ≠ gb338 ∧ k_ ≠ gb340) (S_from ho0) (fun k_ hk_ => ⟨(Nat.le_trans (below_size (qB)) hk_), (Kd.fresh' (Kd.S_lt (by (with_reducible repeat (first | apply Kd.S_alloc | apply Kd.S_drewN | apply Kd.S_drew)); exact HO_339001.out)) k_ hk_), (Kd.freshB (g := gb334) (o := .cells #[.int .i64 a0_0, .slice (some ad339) l0_1.length c0_1, .slice A0_2 l0_2.length c0_2] 35 (0, 0)) (qK BK334.out) k_ hk_), (Kd.freshB (g := gb335) (o := .cells #[.int .i64 0, .slice none 0 0] 30 (0, 0)) (qK BK335.out) k_ hk_), (Kd.freshB (g := gb338) (o := .cells #[.int .i64 t337, u339001] 30 (0, 0)) (qK BK338.out) k_ hk_), (Kd.freshB (g := gb340) (o := .cells #[.int .i64 ((rd_T54 l0_1 x29_2).f0), .int .i64 ((rd_T54 l0_1 x29_2).f1), .int .i64 ((rd_T54 l0_1 x29_2).f2)] 54 (0, 0)) (qK BK340.out) k_ hk_)⟩)) (below_size (qB)))
          have n2_ := Aside0.mk (blk_below (g := gb334) (o := .cells #[.int .i64 a0_0, .slice (some ad339) l0_1.length c0_1, .slice A0_2 l0_2.length c0_2] 35 (0, 0)) (qK BK334.out) hb)
          have n3_ := Aside0.mk (blk_below (g := gb335) (o := .cells #[.int .i64 0, .slice none 0 0] 30 (0, 0)) (qK BK335.out) hb)
          have n4_ := Aside0.mk (blk_below (g := gb338) (o := .cells #[.int .i64 t337, u339001] 30 (0, 0)) (qK BK338.out) hb)
          have n5_ := Aside0.mk (blk_below (g := gb340) (o := .cells #[.int .i64 ((rd_T54 l0_1 x29_2).f0), .int .i64 ((rd_T54 l0_1 x29_2).f1), .int .i64 ((rd_T54 l0_1 x29_2).f2)] 54 (0, 0)) (qK BK340.out) hb)
          have n6_ := Aside0.mk (below_step (qB) hb)
          clear HO_339001
          clear BK334
          clear BK335
          clear BK338
          clear BK340
          clear HB
          have HO_339001 := n0_
          have HO343 := n1_
          have BK334 := n2_
          have BK335 := n3_
          have BK338 := n4_
          have BK340 := n5_
          have HB := n6_
          clear n0_ n1_ n2_ n3_ n4_ n5_ n6_
          (try clear hb)
          (try clear hb2)
          (try clear hk)
          (try clear hi)
          (try clear ho0)
          obtain ⟨Ao41, co41, eo41⟩ := Kd.S_slice HO343.out
          (first | subst eo41 | (injection eo41 with f1_ f2_ f3_; have f4_ := f1_.symm; have f5_ := f3_.symm; clear f1_ f2_ f3_; subst f4_; subst f5_))
          refine hK.out _ _ ⟨(blk_cell BK338.out 0).trans rfl, (blk_cell BK338.out 1).trans rfl, (blk_cell BK340.out 0).trans rfl, (blk_cell BK340.out 1).trans rfl, (blk_cell BK340.out 2).trans rfl, (blk_cell BK334.out 0).trans rfl, (blk_cell BK334.out 1).trans rfl, (blk_cell BK334.out 2).trans rfl⟩ (fun hHeld => ?_)
          clear hK K
          refine norm_ (a' := ?_) ?_ ?_
          rotate_left
          ·show Act.put _ (some 42) _ = _
           simp only [Act.put, List.setIfInBounds_toArray, List.set_cons_zero, List.set_cons_succ, i64_w, i32_w]
           rfl
          refine one_ (i := 9) (N := some 43) #[true, true, true, true, true, true, true, true, true, true, false, false] rfl rfl (one_of HT_.out (by kernel_rfl)) (by decide) (fun K hK => ?_)
          refine Sapp.S_append_rows_step (Kd.slice 3 (Kd.int .i64)) (w0 := w) w.heap.size (by rfl) (.tmp 35) (.tmp 42) 28 23 (.slice none 0 0) 24 rfl Try.underlying28 info23 rfl (by decide) (by omega) u339001 x339001_2 t341 _ _ _ (fun k_ => (w.heap.size ≤ k_) ∧ k_ ≠ gb334 ∧ k_ ≠ gb335 ∧ k_ ≠ gb338 ∧ k_ ≠ gb340) ?okx ?oky rfl rfl ?aO ?aR ?aN ?aX ?aY ?aF ?aB ?aS ?aL ?_
          (case aR => exact (by (with_reducible repeat (first | apply Kd.S_alloc | apply Kd.S_drewN | apply Kd.S_drew)); exact HSY.out))
          (case aO => exact (by (with_reducible repeat (first | apply Kd.S_alloc | apply Kd.S_drewN | apply Kd.S_drew)); exact HSX.out))
          (case aX => exact (show ∀ k_, _ → _ from (fun k_ hk => ⟨hk.1.1, ⟨hk.1.2.1, ⟨hk.1.2.2.1, ⟨hk.1.2.2.2.1, hk.1.2.2.2.2⟩⟩⟩⟩)))
          (case aN => exact (fun k_ h1_ h2_ => Nat.not_lt.2 h2_.2 h1_.2))
          (case aY => exact (fun k_ hk_ => by have hk := hk_.1; exact ⟨⟨hk.1, ⟨hk.2.2.1, ⟨hk.2.2.2.1, ⟨hk.2.2.2.2.1, hk.2.2.2.2.2⟩⟩⟩⟩, hk.2.1⟩))
          (case aB => exact (qB))
          (case aF => exact (fun k_ hk => ⟨(Nat.le_trans (below_size (qB)) hk), Kd.freshB (g := gb334) (o := .cells #[.int .i64 a0_0, .slice (some ad339) l0_1.length c0_1, .slice A0_2 l0_2.length c0_2] 35 (0, 0)) (qK BK334.out) k_ hk, Kd.freshB (g := gb335) (o := .cells #[.int .i64 0, .slice none 0 0] 30 (0, 0)) (qK BK335.out) k_ hk, Kd.freshB (g := gb338) (o := .cells #[.int .i64 t337, u339001] 30 (0, 0)) (qK BK338.out) k_ hk, Kd.freshB (g := gb340) (o := .cells #[.int .i64 ((rd_T54 l0_1 x29_2).f0), .int .i64 ((rd_T54 l0_1 x29_2).f1), .int .i64 ((rd_T54 l0_1 x29_2).f2)] 54 (0, 0)) (qK BK340.out) k_ hk⟩))
          skip
          (case aS => exact (below_size (qB)))
          (case aL => have := LMc31.out; omega)
          intro v345 w40 ho hb hg hat
          rw [← Ny344.out] at ho
          have n0_ := Aside0.mk (blk_grown (g := gb334) (o := .cells #[.int .i64 a0_0, .slice (some ad339) l0_1.length c0_1, .slice A0_2 l0_2.length c0_2] 35 (0, 0)) (qK BK334.out) hg (Kd.S_ne HO_339001.out BK334.out (by decide)))
          have n1_ := Aside0.mk (blk_grown (g := gb335) (o := .cells #[.int .i64 0, .slice none 0 0] 30 (0, 0)) (qK BK335.out) hg (Kd.S_ne HO_339001.out BK335.out (by decide)))
          have n2_ := Aside0.mk (blk_grown (g := gb338) (o := .cells #[.int .i64 t337, u339001] 30 (0, 0)) (qK BK338.out) hg (Kd.S_ne HO_339001.out BK338.out (by decide)))
          have n3_ := Aside0.mk (blk_grown (g := gb340) (o := .cells #[.int .i64 ((rd_T54 l0_1 x29_2).f0), .int .i64 ((rd_T54 l0_1 x29_2).f1), .int .i64 ((rd_T54 l0_1 x29_2).f2)] 54 (0, 0)) (qK BK340.out) hg (Kd.S_ne HO_339001.out BK340.out (by decide)))
          have n4_ := Aside0.mk (Kd.S_after (ok := (fun k_ => (w.heap.size ≤ k_) ∧ k_ ≠ gb334 ∧ k_ ≠ gb335 ∧ k_ ≠ gb338 ∧ k_ ≠ gb340)) (by (with_reducible repeat (first | apply Kd.S_alloc | apply Kd.S_drewN | apply Kd.S_drew)); exact Kd.S_mono HO343.out (fun _ hk => ⟨⟨hk.1, ⟨hk.2.2.1, ⟨hk.2.2.2.1, ⟨hk.2.2.2.2.1, hk.2.2.2.2.2⟩⟩⟩⟩, hk.2.1⟩)) hg hat)
          have n5_ := Aside0.mk (hb)
          have n6_ := Aside0.mk (ho)
          clear BK334
          clear BK335
          clear BK338
          clear BK340
          clear HO343
          clear HB
          clear HO_339001
          have BK334 := n0_
          have BK335 := n1_
          have BK338 := n2_
          have BK340 := n3_
          have HO343 := n4_
          have HB := n5_
          have HO346 := n6_
          clear n0_ n1_ n2_ n3_ n4_ n5_ n6_
          clear ho hb hg hat
          obtain ⟨Ao42, co42, eo42⟩ := Kd.S_slice HO346.out
          (first | subst eo42 | (injection eo42 with f1_ f2_ f3_; have f4_ := f1_.symm; have f5_ := f3_.symm; clear f1_ f2_ f3_; subst f4_; subst f5_))
          refine hK.out _ _ ⟨(blk_cell BK338.out 0).trans rfl, (blk_cell BK338.out 1).trans rfl, (blk_cell BK340.out 0).trans rfl, (blk_cell BK340.out 1).trans rfl, (blk_cell BK340.out 2).trans rfl, (blk_cell BK334.out 0).trans rfl, (blk_cell BK334.out 1).trans rfl, (blk_cell BK334.out 2).trans rfl⟩ (fun hHeld => ?_)
          clear hK K
          refine norm_ (a' := ?_) ?_ ?_
          rotate_left
          ·show Act.put _ (some 43) _ = _
           simp only [Act.put, List.setIfInBounds_toArray, List.set_cons_zero, List.set_cons_succ, i64_w, i32_w]
           rfl
          refine pure_ (i := 10) (N := some 44) (v := ?_) (a' := ?_) #[true, true, true, true, true, true, true, true, true, true, true, false] rfl rfl (any_of HT_.out (by kernel_rfl)) (fun _ _ _ h => h) (Or.inl ⟨by rfl, ?_⟩) ?_ ?_
          rotate_left
          ·intro w'
           go_simp
           with_reducible rfl
          rotate_left
          ·simp only [Act.put, List.setIfInBounds_toArray, List.set_cons_zero, List.set_cons_succ, i64_w, i32_w]
           rfl
          refine last_ (i := 11) (N := none) #[true, true, true, true, true, true, true, true, true, true, true, true] rfl rfl (one_of HT_.out (by kernel_rfl)) (by decide) (fun K hK => ?_)
          have hs43 : w40.cell? ⟨gb338, 1, none⟩ = some (u339001) := (blk_cell BK338.out 1).trans rfl
          have hfs43 := blk_frozen BK338.out 1
          have hns43_0 := NB334_338.out
          have hns43_1 := NB335_338.out
          have hns43_3 := NB340_338.out
          have hms43_0 := NB338_334.out
          have hms43_1 := NB338_335.out
          have hms43_3 := NB338_340.out
          refine skip_ (w1 := ?_) (by rfl) rfl ?_ ?_
          rotate_left
          ·go_simp
           rfl
          refine hK.out _ _ ?_
          clear hK K
          refine done_ (done_of HT_.out (by kernel_rfl)) ?_
          try go_wp2
          go_roundg k2
          case measure => have := HJ2.out; have := HK2.out; omega
          case rel => exact ⟨(wrap64 (x29_2 + 1)), (y344), (.slice Ao42 y344.length co42), qS, H', ⟨by have := HJ2.out; have := HK2.out; omega⟩, ⟨by (with_reducible repeat (first | apply Kd.S_alloc | apply Kd.S_drewN | apply Kd.S_drew)); exact Kd.S_mono (Kd.S_far (p := ⟨gb338, 1, none⟩) (Kd.S_mono HO346.out (fun k_ hk => (⟨hk, hk.2.2.2.1⟩ : _ ∧ k_ ≠ gb338))) (fun _ hk => hk.2) (.slice Ao42 y344.length co42)) (fun _ hk => ⟨hk.1.1, ⟨hk.1.2.1, ⟨hk.1.2.2.1, hk.1.2.2.2.1⟩⟩⟩)⟩, ⟨by (with_reducible repeat (first | refine blk_drewN ?_ _ | refine blk_drew ?_ | refine blk_alloc ?_ _)); refine blk_far ?_ NB334_338.out _; exact qK BK334.out⟩, ⟨by (with_reducible repeat (first | refine blk_drewN ?_ _ | refine blk_drew ?_ | refine blk_alloc ?_ _)); refine blk_far ?_ NB335_338.out _; exact qK BK335.out⟩, ⟨by (with_reducible repeat (first | refine blk_drewN ?_ _ | refine blk_drew ?_ | refine blk_alloc ?_ _)); refine blk_put (cs := #[.int .i64 t337, u339001]) ?_ 1 _ rfl; exact qK BK338.out⟩, ⟨qB⟩⟩
         ·rw [if_neg c31] at H
          exact absurd H (by simp)
        ·rw [if_neg c29] at H
         exact absurd H (by simp)
       ·rw [if_neg c28] at H
        exact absurd H (by simp)
      ·rw [if_neg c27] at H
       have c27b0 : decide (x29_2 < (l0_1.length : Int)) = false := decide_eq_false c27
       clear c27
       have H' := Aside0.mk H
       clear H
       have hnb44 := NB334_335.out
       have hnc44 := NB335_334.out
       have hnb45 := NB334_338.out
       have hnc45 := NB338_334.out
       have hcz46_0 : wr.cell? ⟨gb334, 0, none⟩ = some (.int .i64 a0_0) := (blk_cell BK334.out 0).trans rfl
       have hcz46_1 : wr.cell? ⟨gb334, 1, none⟩ = some (.slice A0_1 l0_1.length c0_1) := (blk_cell BK334.out 1).trans rfl
       have hcz46_2 : wr.cell? ⟨gb334, 2, none⟩ = some (.slice A0_2 l0_2.length c0_2) := (blk_cell BK334.out 2).trans rfl
       have hfz46_0 := blk_frozen BK334.out 0
       have hfz46_1 := blk_frozen BK334.out 1
       have hfz46_2 := blk_frozen BK334.out 2
       go_wp2
       go_loopg [49] k2 (fun kq v49 w' => ∃ (x49_3 : Int) (x339001_3 : List (List Int)) (u339001 : Value), v49 = .int .i64 x49_3 ∧ Aside0 (impl_CnfFor.l1 kq l1 l0_2 (l0_2.length : Int) x49_3 t337 x339001_3 = some (r1, r2, r3)) ∧ Aside0 (kq ≤ k2) ∧ Aside0 (Kd.S (Kd.slice 3 (Kd.int .i64)) 23 w' w.heap.size (fun k_ => (w.heap.size ≤ k_) ∧ k_ ≠ gb334 ∧ k_ ≠ gb335 ∧ k_ ≠ gb338) u339001 x339001_3) ∧ Aside0 (w'.heap[gb334]? = some (.cells #[.int .i64 a0_0, (.slice A0_1 l0_1.length c0_1), (.slice A0_2 l0_2.length c0_2)] 35 (0, 0))) ∧ Aside0 (w'.heap[gb335]? = some (.cells #[.int .i64 0, (.slice none 0 0)] 30 (0, 0))) ∧ Aside0 (w'.heap[gb338]? = some (.cells #[.int .i64 t337, u339001] 30 (0, 0))) ∧ Aside0 (Below w.heap.size w w'))
       case atStart => exact ⟨(0), (x339001_2), (u339001), qS, H', ⟨Nat.le_refl _⟩, ⟨by (with_reducible repeat (first | apply Kd.S_alloc | apply Kd.S_drewN | apply Kd.S_drew)); exact HO_339001.out⟩, ⟨by exact qK BK334.out⟩, ⟨by exact qK BK335.out⟩, ⟨by exact qK BK338.out⟩, ⟨qB⟩⟩
       case round =>
        clear H'
        try clear c1
        try clear c2
        try clear p2
        try clear c3
        try clear p3
        try clear q3
        try clear hx3
        try clear c4
        try clear p6
        try clear c7
        try clear c8
        try clear c12
        try clear c15
        try clear c16
        try clear c19
        try clear c23
        try clear c24
        try clear c25
        try clear c27
        try clear c27b0
        try clear c28
        try clear c28b0
        try clear c29
        try clear c29b0
        try clear c31
        try clear c33
        try clear p33
        try clear q33
        try clear hx33
        try clear c34
        try clear c35
        try clear c44
        try clear c45
        try clear hcz11_0
        try clear hcz11_1
        try clear hcz11_2
        try clear hcz13_0
        try clear hcz13_1
        try clear hcz13_2
        try clear hcz17_0
        try clear hcz17_1
        try clear hcz20_0
        try clear hcz20_1
        try clear hcz20_2
        try clear hcz25_0
        try clear hcz25_1
        try clear hcz26_0
        try clear hcz26_1
        try clear hcz26_2
        try clear hcz36_0
        try clear hcz36_1
        try clear hcz36_2
        try clear hcz46_0
        try clear hcz46_1
        try clear hcz46_2
        try clear hcz9_0
        try clear hcz9_1
        try clear hcz9_2
        try clear hfz11_0
        try clear hfz11_1
        try clear hfz11_2
        try clear hfz13_0
        try clear hfz13_1
        try clear hfz13_2
        try clear hfz17_0
        try clear hfz17_1
        try clear hfz20_0
        try clear hfz20_1
        try clear hfz20_2
        try clear hfz25_0
        try clear hfz25_1
        try clear hfz26_0
        try clear hfz26_1
        try clear hfz26_2
        try clear hfz36_0
        try clear hfz36_1
        try clear hfz36_2
        try clear hfz46_0
        try clear hfz46_1
        try clear hfz46_2
        try clear hfz9_0
        try clear hfz9_1
        try clear hfz9_2
        try clear hx339_0
        try clear hx339_1
        try clear hx339_2
        try clear p2
        try clear p339
        try clear q339
        obtain ⟨x49_3, x339001_3, u339001, rfl, HA, HK3, HO_339001, BK334, BK335, BK338, HB⟩ := hrel
        cases gk with
        | zero => exact absurd HA.out (by simp [impl_CnfFor.l1])
        | succ k3 =>
         have H := HA.out
         clear HA
         simp only [impl_CnfFor.l1] at H
         by_cases c47 : x49_3 < (l0_2.length : Int)
         ·rw [if_pos c47] at H
          have c47b0 : decide (x49_3 < (l0_2.length : Int)) = true := decide_eq_true c47
          clear c47
          by_cases c48 : 0 ≤ x49_3
          ·rw [if_pos c48] at H
           have c48b0 : decide (0 ≤ x49_3) = true := decide_eq_true c48
           clear c48
           by_cases c49 : x49_3 < (l0_2.length : Int)
           ·rw [if_pos c49] at H
            have c49b0 : decide (x49_3 < (l0_2.length : Int)) = true := decide_eq_true c49
            clear c49
            by_cases c50 : x49_3 < (l1.length : Int)
            ·rw [if_pos c50] at H
             have c50b0 : decide (x49_3 < (l1.length : Int)) = true := decide_eq_true c50
             clear c50
             obtain ⟨bq51, hbq51⟩ : ∃ b_ : Bool, b_ = (rdOf false l1 x49_3) := ⟨_, rfl⟩
             replace H : (if bq51 = true then (if x339001_3.length < 5864062014805 then (impl_CnfFor.l1 k3 l1 l0_2 (l0_2.length : Int) (wrap64 (x49_3 + 1)) t337 (x339001_3 ++ [(([wrap64 ((rd l0_2 x49_3) + 1)] : List Int))])) else (none)) else (if x339001_3.length < 5864062014805 then (impl_CnfFor.l1 k3 l1 l0_2 (l0_2.length : Int) (wrap64 (x49_3 + 1)) t337 (x339001_3 ++ [(([wrap64 ((wrap64 (-(rd l0_2 x49_3))) - 1)] : List Int))])) else (none))) = some (r1, r2, r3) := by rw [← hbq51] at H; exact H
             have Nbq51 := Aside0.mk hbq51
             clear hbq51
             by_cases c52 : bq51 = true
             ·subst c52
              have H1 : (if x339001_3.length < 5864062014805 then (impl_CnfFor.l1 k3 l1 l0_2 (l0_2.length : Int) (wrap64 (x49_3 + 1)) t337 (x339001_3 ++ [(([wrap64 ((rd l0_2 x49_3) + 1)] : List Int))])) else (none)) = some (r1, r2, r3) := by rw [if_pos rfl] at H; exact H
              clear H
              have H := H1
              clear H1
              obtain ⟨y349, hy349⟩ : ∃ y_ : List Int, y_ = (([wrap64 ((rd l0_2 x49_3) + 1)] : List Int)) := ⟨_, rfl⟩
              replace H : (if x339001_3.length < 5864062014805 then (impl_CnfFor.l1 k3 l1 l0_2 (l0_2.length : Int) (wrap64 (x49_3 + 1)) t337 (x339001_3 ++ [y349])) else (none)) = some (r1, r2, r3) := qY hy349 H
              have Ny349 := Aside0.mk hy349
              clear hy349
              by_cases c53 : x339001_3.length < 5864062014805
              ·rw [if_pos c53] at H
               have LMc53 := Aside0.mk c53
               clear c53
               obtain ⟨y352, hy352⟩ : ∃ y_ : List (List Int), y_ = (x339001_3 ++ [y349]) := ⟨_, rfl⟩
               replace H : (impl_CnfFor.l1 k3 l1 l0_2 (l0_2.length : Int) (wrap64 (x49_3 + 1)) t337 y352) = some (r1, r2, r3) := qY hy352 H
               have Ny352 := Aside0.mk hy352
               clear hy352
               have H' := Aside0.mk H
               clear H
               have p347 : 0 ≤ (x49_3 : Int) := qD
               have q347 : x49_3 < (l0_2.length : Int) := qD
               obtain ⟨ad347, e347, hx347_0⟩ := Kd.at_int HR0_2.out x49_3 p347 q347
               cases e347
               replace hx347_0 := (HB.out.cell (World.block_lt_of_cell? w _ hx347_0)).trans hx347_0
               replace p347 := eq_true p347
               replace q347 := eq_true q347
               have p348 : 0 ≤ (x49_3 : Int) := qD
               have q348 : x49_3 < (l1.length : Int) := qD
               obtain ⟨ad348, e348, hx348_0⟩ := Kd.at_bool HR1.out x49_3 p348 q348
               (try rw [← Nbq51.out] at hx348_0)
               cases e348
               replace hx348_0 := (HB.out.cell (World.block_lt_of_cell? w _ hx348_0)).trans hx348_0
               replace p348 := eq_true p348
               replace q348 := eq_true q348
               have hnb54 := NB338_334.out
               have hnc54 := NB334_338.out
               have hnb55 := NB338_335.out
               have hnc55 := NB335_338.out
               have hcz56_0 : wr.cell? ⟨gb338, 0, none⟩ = some (.int .i64 t337) := (blk_cell BK338.out 0).trans rfl
               have hcz56_1 : wr.cell? ⟨gb338, 1, none⟩ = some (u339001) := (blk_cell BK338.out 1).trans rfl
               have hfz56_0 := blk_frozen BK338.out 0
               have hfz56_1 := blk_frozen BK338.out 1
               go_wp2_with (first | ((with_reducible refine gate_dst (N := 62) rfl ?_); (try (refine gate_guard (by rfl) ?_; dsimp only)); refine Kd.R_lit (Kd.int .i64) _ 3 ?hg (N := 62) ?hd (xs := ([wrap64 ((rd l0_2 x49_3) + 1)] : List Int)) (inner := [.int .i64 (wrap64 ((rd l0_2 x49_3) + 1))]) (ok := fun _ => True) (okp := fun _ => True) ?hr ?hp (fun _ hk => hk) trivial (Below.refl _ _) (Nat.le_refl _) (by simp) ?_; (case hd => rfl); (case hg => rfl); (case hr => first | (go_simp; done) | (go_simp; rfl)); (case hp => exact (Reps.one (show Kd.M (Kd.int .i64) _ _ _ (wrap64 ((rd l0_2 x49_3) + 1)) [.int .i64 (wrap64 ((rd l0_2 x49_3) + 1))] from rfl) (Reps.none _ _))); intro v350 w57 ho58 hb hg_ hnew_; clear hg_ hnew_; (first | rw [← Ny349.out] at ho58 | (simp only [Int.reduceToNat] at ho58; rw [← Ny349.out] at ho58)); have n0_ := Aside0.mk (Kd.S_elder' (by (with_reducible repeat (first | apply Kd.S_alloc | apply Kd.S_drewN | apply Kd.S_drew)); exact HO_339001.out) (Kd.R_base ho58) hb); have n1_ := Aside0.mk (Kd.R_lower (Kd.R_newM (M := fun k_ => (w.heap.size ≤ k_)) ho58 (below_size (qB)) (fun k_ h_ => h_)) (below_size (qB))); have n2_ := Aside0.mk (blk_below (g := gb334) (o := .cells #[.int .i64 a0_0, .slice A0_1 l0_1.length c0_1, .slice (some ad347) l0_2.length c0_2] 35 (0, 0)) (qK BK334.out) hb); have n3_ := Aside0.mk (blk_below (g := gb335) (o := .cells #[.int .i64 0, .slice none 0 0] 30 (0, 0)) (qK BK335.out) hb); have n4_ := Aside0.mk (blk_below (g := gb338) (o := .cells #[.int .i64 t337, u339001] 30 (0, 0)) (qK BK338.out) hb); have n5_ := Aside0.mk (below_step (qB) hb); clear HO_339001; clear BK334; clear BK335; clear BK338; clear HB; have HO_339001 := n0_; have HO351 := n1_; have BK334 := n2_; have BK335 := n3_; have BK338 := n4_; have HB := n5_; clear n0_ n1_ n2_ n3_ n4_ n5_; clear hb ho58; obtain ⟨Ao60, co60, eo60⟩ := Kd.R_slice HO351.out; subst eo60) | ((with_reducible refine gate_builtin (b := .append) (xs := #[.tmp 59, .tmp 63]) rfl ?_); (try (refine gate_guard (by rfl) ?_; dsimp only)); at_builtin; have hok_ : ∀ k_, some k_ = (.slice Ao60 y349.length co60 : Value).ownBlock → ((fun k_ => (w.heap.size ≤ k_) ∧ k_ ≠ gb334 ∧ k_ ≠ gb335 ∧ k_ ≠ gb338) k_) ∧ some k_ ≠ (u339001 : Value).ownBlock := (fun k_ e_ => by have hk := (Kd.R_types (Kd.R_types (Kd.R_types (Kd.R_apart' (HO351.out) (Kd.S_typed HO_339001.out) (by decide)) BK334.out (by decide)) BK335.out (by decide)) BK338.out (by decide)).1 k_ e_.symm; exact ⟨⟨hk.1.1.1.1.1, ⟨hk.1.1.2, ⟨hk.1.2, hk.2⟩⟩⟩, hk.1.1.1.2⟩); refine Kd.S_append (Kd.slice 3 (Kd.int .i64)) (w0 := w) w.heap.size rfl (.tmp 59) (.tmp 63) 28 23 (.slice none 0 0) 24 rfl Try.underlying28 info23 rfl (by decide) (by omega) u339001 x339001_3 y349 [.slice Ao60 y349.length co60] (fun k_ => (w.heap.size ≤ k_) ∧ k_ ≠ gb334 ∧ k_ ≠ gb335 ∧ k_ ≠ gb338) (fun k_ => some k_ = (.slice Ao60 y349.length co60 : Value).ownBlock) rfl rfl ?aP hok_ ?aF ?aO ?aB ?aS ?aL ?_; (case aP => exact ⟨_, rfl, Kd.R_tight rfl (qR HO351.out)⟩); (case aB => exact (qB)); (case aF => exact (fun k_ hk => ⟨(Nat.le_trans (below_size (qB)) hk), Kd.freshB (g := gb334) (o := .cells #[.int .i64 a0_0, .slice A0_1 l0_1.length c0_1, .slice (some ad347) l0_2.length c0_2] 35 (0, 0)) (qK BK334.out) k_ hk, Kd.freshB (g := gb335) (o := .cells #[.int .i64 0, .slice none 0 0] 30 (0, 0)) (qK BK335.out) k_ hk, Kd.freshB (g := gb338) (o := .cells #[.int .i64 t337, u339001] 30 (0, 0)) (qK BK338.out) k_ hk⟩)); (case aO => exact (by (with_reducible repeat (first | apply Kd.S_alloc | apply Kd.S_drewN | apply Kd.S_drew)); exact Kd.S_mono HO_339001.out (fun _ hk => ⟨⟨hk.1.1, ⟨hk.1.2.1, ⟨hk.1.2.2.1, hk.1.2.2.2⟩⟩⟩, fun e_ => hk.2 e_⟩))); (case aS => exact (below_size (qB))); (case aL => have := LMc53.out; omega); (try clear hok_); intro v353 w59 ho hb hg hat; rw [← Ny352.out] at ho; have n0_ := Aside0.mk (blk_grown (g := gb334) (o := .cells #[.int .i64 a0_0, .slice A0_1 l0_1.length c0_1, .slice (some ad347) l0_2.length c0_2] 35 (0, 0)) (qK BK334.out) hg (Kd.S_ne HO_339001.out BK334.out (by decide))); have n1_ := Aside0.mk (blk_grown (g := gb335) (o := .cells #[.int .i64 0, .slice none 0 0] 30 (0, 0)) (qK BK335.out) hg (Kd.S_ne HO_339001.out BK335.out (by decide))); have n2_ := Aside0.mk (blk_grown (g := gb338) (o := .cells #[.int .i64 t337, u339001] 30 (0, 0)) (qK BK338.out) hg (Kd.S_ne HO_339001.out BK338.out (by decide))); have n3_ := Aside0.mk (hb); have n4_ := Aside0.mk (ho); clear BK334; clear BK335; clear BK338; clear HB; clear HO_339001; clear HO351; have BK334 := n0_; have BK335 := n1_; have BK338 := n2_; have HB := n3_; have HO354 := n4_; clear n0_ n1_ n2_ n3_ n4_; clear ho hb hg hat; obtain ⟨Ao61, co61, eo61⟩ := Kd.S_slice HO354.out; subst eo61; have hcz62_0 : w59.cell? ⟨gb338, 0, none⟩ = some (.int .i64 t337) := (blk_cell BK338.out 0).trans rfl; have hcz62_1 : w59.cell? ⟨gb338, 1, none⟩ = some (u339001) := (blk_cell BK338.out 1).trans rfl; have hfz62_0 := blk_frozen BK338.out 0; have hfz62_1 := blk_frozen BK338.out 1))
               go_roundg k3
               case measure => have := HJ2.out; have := HK2.out; have := HK3.out; omega
               case rel => exact ⟨(wrap64 (x49_3 + 1)), (y352), (.slice Ao61 y352.length co61), qS, H', ⟨by have := HJ2.out; have := HK2.out; have := HK3.out; omega⟩, ⟨by (with_reducible repeat (first | apply Kd.S_alloc | apply Kd.S_drewN | apply Kd.S_drew)); exact Kd.S_mono (Kd.S_far (p := ⟨gb338, 1, none⟩) (Kd.S_mono HO354.out (fun k_ hk => (⟨hk, hk.2.2.2⟩ : _ ∧ k_ ≠ gb338))) (fun _ hk => hk.2) (.slice Ao61 y352.length co61)) (fun _ hk => ⟨hk.1.1, ⟨hk.1.2.1, ⟨hk.1.2.2.1, hk.1.2.2.2⟩⟩⟩)⟩, ⟨by (with_reducible repeat (first | refine blk_drewN ?_ _ | refine blk_drew ?_ | refine blk_alloc ?_ _)); refine blk_far ?_ NB334_338.out _; exact qK BK334.out⟩, ⟨by (with_reducible repeat (first | refine blk_drewN ?_ _ | refine blk_drew ?_ | refine blk_alloc ?_ _)); refine blk_far ?_ NB335_338.out _; exact qK BK335.out⟩, ⟨by (with_reducible repeat (first | refine blk_drewN ?_ _ | refine blk_drew ?_ | refine blk_alloc ?_ _)); refine blk_put (cs := #[.int .i64 t337, u339001]) ?_ 1 _ rfl; exact qK BK338.out⟩, ⟨qB⟩⟩
              ·rw [if_neg c53] at H
               exact absurd H (by simp)
             ·replace c52 := Bool.eq_false_iff.mpr c52
              subst c52
              have H1 : (if x339001_3.length < 5864062014805 then (impl_CnfFor.l1 k3 l1 l0_2 (l0_2.length : Int) (wrap64 (x49_3 + 1)) t337 (x339001_3 ++ [(([wrap64 ((wrap64 (-(rd l0_2 x49_3))) - 1)] : List Int))])) else (none)) = some (r1, r2, r3) := by rw [if_neg (show ¬ (false = true) by decide)] at H; exact H
              clear H
              have H := H1
              clear H1
              obtain ⟨y355, hy355⟩ : ∃ y_ : List Int, y_ = (([wrap64 ((wrap64 (-(rd l0_2 x49_3))) - 1)] : List Int)) := ⟨_, rfl⟩
              replace H : (if x339001_3.length < 5864062014805 then (impl_CnfFor.l1 k3 l1 l0_2 (l0_2.length : Int) (wrap64 (x49_3 + 1)) t337 (x339001_3 ++ [y355])) else (none)) = some (r1, r2, r3) := qY hy355 H
              have Ny355 := Aside0.mk hy355
              clear hy355
              by_cases c63 : x339001_3.length < 5864062014805
              ·rw [if_pos c63] at H
               have LMc63 := Aside0.mk c63
               clear c63
               obtain ⟨y358, hy358⟩ : ∃ y_ : List (List Int), y_ = (x339001_3 ++ [y355]) := ⟨_, rfl⟩
               replace H : (impl_CnfFor.l1 k3 l1 l0_2 (l0_2.length : Int) (wrap64 (x49_3 + 1)) t337 y358) = some (r1, r2, r3) := qY hy358 H
               have Ny358 := Aside0.mk hy358
               clear hy358
               have H' := Aside0.mk H
               clear H
               have p347 : 0 ≤ (x49_3 : Int) := qD
               have q347 : x49_3 < (l0_2.length : Int) := qD
               obtain ⟨ad347, e347, hx347_0⟩ := Kd.at_int HR0_2.out x49_3 p347 q347
               cases e347
               replace hx347_0 := (HB.out.cell (World.block_lt_of_cell? w _ hx347_0)).trans hx347_0
               replace p347 := eq_true p347
               replace q347 := eq_true q347
               have p348 : 0 ≤ (x49_3 : Int) := qD
               have q348 : x49_3 < (l1.length : Int) := qD
               obtain ⟨ad348, e348, hx348_0⟩ := Kd.at_bool HR1.out x49_3 p348 q348
               (try rw [← Nbq51.out] at hx348_0)
               cases e348
               replace hx348_0 := (HB.out.cell (World.block_lt_of_cell? w _ hx348_0)).trans hx348_0
               replace p348 := eq_true p348
               replace q348 := eq_true q348
               have hnb64 := NB338_334.out
               have hnc64 := NB334_338.out
               have hnb65 := NB338_335.out
               have hnc65 := NB335_338.out
               have hcz66_0 : wr.cell? ⟨gb338, 0, none⟩ = some (.int .i64 t337) := (blk_cell BK338.out 0).trans rfl
               have hcz66_1 : wr.cell? ⟨gb338, 1, none⟩ = some (u339001) := (blk_cell BK338.out 1).trans rfl
               have hfz66_0 := blk_frozen BK338.out 0
               have hfz66_1 := blk_frozen BK338.out 1
               go_wp2_with (first | ((with_reducible refine gate_dst (N := 71) rfl ?_); (try (refine gate_guard (by rfl) ?_; dsimp only)); refine Kd.R_lit (Kd.int .i64) _ 3 ?hg (N := 71) ?hd (xs := ([wrap64 ((wrap64 (-(rd l0_2 x49_3))) - 1)] : List Int)) (inner := [.int .i64 (wrap64 ((wrap64 (-(rd l0_2 x49_3))) - 1))]) (ok := fun _ => True) (okp := fun _ => True) ?hr ?hp (fun _ hk => hk) trivial (Below.refl _ _) (Nat.le_refl _) (by simp) ?_; (case hd => rfl); (case hg => rfl); (case hr => first | (go_simp; done) | (go_simp; rfl)); (case hp => exact (Reps.one (show Kd.M (Kd.int .i64) _ _ _ (wrap64 ((wrap64 (-(rd l0_2 x49_3))) - 1)) [.int .i64 (wrap64 ((wrap64 (-(rd l0_2 x49_3))) - 1))] from rfl) (Reps.none _ _))); intro v356 w67 ho68 hb hg_ hnew_; clear hg_ hnew_; (first | rw [← Ny355.out] at ho68 | (simp only [Int.reduceToNat] at ho68; rw [← Ny355.out] at ho68)); have n0_ := Aside0.mk (Kd.S_elder' (by (with_reducible repeat (first | apply Kd.S_alloc | apply Kd.S_drewN | apply Kd.S_drew)); exact HO_339001.out) (Kd.R_base ho68) hb); have n1_ := Aside0.mk (Kd.R_lower (Kd.R_newM (M := fun k_ => (w.heap.size ≤ k_)) ho68 (below_size (qB)) (fun k_ h_ => h_)) (below_size (qB))); have n2_ := Aside0.mk (blk_below (g := gb334) (o := .cells #[.int .i64 a0_0, .slice A0_1 l0_1.length c0_1, .slice (some ad347) l0_2.length c0_2] 35 (0, 0)) (qK BK334.out) hb); have n3_ := Aside0.mk (blk_below (g := gb335) (o := .cells #[.int .i64 0, .slice none 0 0] 30 (0, 0)) (qK BK335.out) hb); have n4_ := Aside0.mk (blk_below (g := gb338) (o := .cells #[.int .i64 t337, u339001] 30 (0, 0)) (qK BK338.out) hb); have n5_ := Aside0.mk (below_step (qB) hb); clear HO_339001; clear BK334; clear BK335; clear BK338; clear HB; have HO_339001 := n0_; have HO357 := n1_; have BK334 := n2_; have BK335 := n3_; have BK338 := n4_; have HB := n5_; clear n0_ n1_ n2_ n3_ n4_ n5_; clear hb ho68; obtain ⟨Ao70, co70, eo70⟩ := Kd.R_slice HO357.out; subst eo70) | ((with_reducible refine gate_builtin (b := .append) (xs := #[.tmp 67, .tmp 72]) rfl ?_); (try (refine gate_guard (by rfl) ?_; dsimp only)); at_builtin; have hok_ : ∀ k_, some k_ = (.slice Ao70 y355.length co70 : Value).ownBlock → ((fun k_ => (w.heap.size ≤ k_) ∧ k_ ≠ gb334 ∧ k_ ≠ gb335 ∧ k_ ≠ gb338) k_) ∧ some k_ ≠ (u339001 : Value).ownBlock := (fun k_ e_ => by have hk := (Kd.R_types (Kd.R_types (Kd.R_types (Kd.R_apart' (HO357.out) (Kd.S_typed HO_339001.out) (by decide)) BK334.out (by decide)) BK335.out (by decide)) BK338.out (by decide)).1 k_ e_.symm; exact ⟨⟨hk.1.1.1.1.1, ⟨hk.1.1.2, ⟨hk.1.2, hk.2⟩⟩⟩, hk.1.1.1.2⟩); refine Kd.S_append (Kd.slice 3 (Kd.int .i64)) (w0 := w) w.heap.size rfl (.tmp 67) (.tmp 72) 28 23 (.slice none 0 0) 24 rfl Try.underlying28 info23 rfl (by decide) (by omega) u339001 x339001_3 y355 [.slice Ao70 y355.length co70] (fun k_ => (w.heap.size ≤ k_) ∧ k_ ≠ gb334 ∧ k_ ≠ gb335 ∧ k_ ≠ gb338) (fun k_ => some k_ = (.slice Ao70 y355.length co70 : Value).ownBlock) rfl rfl ?aP hok_ ?aF ?aO ?aB ?aS ?aL ?_; (case aP => exact ⟨_, rfl, Kd.R_tight rfl (qR HO357.out)⟩); (case aB => exact (qB)); (case aF => exact (fun k_ hk => ⟨(Nat.le_trans (below_size (qB)) hk), Kd.freshB (g := gb334) (o := .cells #[.int .i64 a0_0, .slice A0_1 l0_1.length c0_1, .slice (some ad347) l0_2.length c0_2] 35 (0, 0)) (qK BK334.out) k_ hk, Kd.freshB (g := gb335) (o := .cells #[.int .i64 0, .slice none 0 0] 30 (0, 0)) (qK BK335.out) k_ hk, Kd.freshB (g := gb338) (o := .cells #[.int .i64 t337, u339001] 30 (0, 0)) (qK BK338.out) k_ hk⟩)); (case aO => exact (by (with_reducible repeat (first | apply Kd.S_alloc | apply Kd.S_drewN | apply Kd.S_drew)); exact Kd.S_mono HO_339001.out (fun _ hk => ⟨⟨hk.1.1, ⟨hk.1.2.1, ⟨hk.1.2.2.1, hk.1.2.2.2⟩⟩⟩, fun e_ => hk.2 e_⟩))); (case aS => exact (below_size (qB))); (case aL => have := LMc63.out; omega); (try clear hok_); intro v359 w69 ho hb hg hat; rw [← Ny358.out] at ho; have n0_ := Aside0.mk (blk_grown (g := gb334) (o := .cells #[.int .i64 a0_0, .slice A0_1 l0_1.length c0_1, .slice (some ad347) l0_2.length c0_2] 35 (0, 0)) (qK BK334.out) hg (Kd.S_ne HO_339001.out BK334.out (by decide))); have n1_ := Aside0.mk (blk_grown (g := gb335) (o := .cells #[.int .i64 0, .slice none 0 0] 30 (0, 0)) (qK BK335.out) hg (Kd.S_ne HO_339001.out BK335.out (by decide))); have n2_ := Aside0.mk (blk_grown (g := gb338) (o := .cells #[.int .i64 t337, u339001] 30 (0, 0)) (qK BK338.out) hg (Kd.S_ne HO_339001.out BK338.out (by decide))); have n3_ := Aside0.mk (hb); have n4_ := Aside0.mk (ho); clear BK334; clear BK335; clear BK338; clear HB; clear HO_339001; clear HO357; have BK334 := n0_; have BK335 := n1_; have BK338 := n2_; have HB := n3_; have HO360 := n4_; clear n0_ n1_ n2_ n3_ n4_; clear ho hb hg hat; obtain ⟨Ao71, co71, eo71⟩ := Kd.S_slice HO360.out; subst eo71; have hcz72_0 : w69.cell? ⟨gb338, 0, none⟩ = some (.int .i64 t337) := (blk_cell BK338.out 0).trans rfl; have hcz72_1 : w69.cell? ⟨gb338, 1, none⟩ = some (u339001) := (blk_cell BK338.out 1).trans rfl; have hfz72_0 := blk_frozen BK338.out 0; have hfz72_1 := blk_frozen BK338.out 1))
               go_roundg k3
               case measure => have := HJ2.out; have := HK2.out; have := HK3.out; omega
               case rel => exact ⟨(wrap64 (x49_3 + 1)), (y358), (.slice Ao71 y358.length co71), qS, H', ⟨by have := HJ2.out; have := HK2.out; have := HK3.out; omega⟩, ⟨by (with_reducible repeat (first | apply Kd.S_alloc | apply Kd.S_drewN | apply Kd.S_drew)); exact Kd.S_mono (Kd.S_far (p := ⟨gb338, 1, none⟩) (Kd.S_mono HO360.out (fun k_ hk => (⟨hk, hk.2.2.2⟩ : _ ∧ k_ ≠ gb338))) (fun _ hk => hk.2) (.slice Ao71 y358.length co71)) (fun _ hk => ⟨hk.1.1, ⟨hk.1.2.1, ⟨hk.1.2.2.1, hk.1.2.2.2⟩⟩⟩)⟩, ⟨by (with_reducible repeat (first | refine blk_drewN ?_ _ | refine blk_drew ?_ | refine blk_alloc ?_ _)); refine blk_far ?_ NB334_338.out _; exact qK BK334.out⟩, ⟨by (with_reducible repeat (first | refine blk_drewN ?_ _ | refine blk_drew ?_ | refine blk_alloc ?_ _)); refine blk_far ?_ NB335_338.out _; exact qK BK335.out⟩, ⟨by (with_reducible repeat (first | refine blk_drewN ?_ _ | refine blk_drew ?_ | refine blk_alloc ?_ _)); refine blk_put (cs := #[.int .i64 t337, u339001]) ?_ 1 _ rfl; exact qK BK338.out⟩, ⟨qB⟩⟩
              ·rw [if_neg c63] at H
               exact absurd H (by simp)
            ·rw [if_neg c50] at H
             exact absurd H (by simp)
           ·rw [if_neg c49] at H
            exact absurd H (by simp)
          ·rw [if_neg c48] at H
           exact absurd H (by simp)
         ·rw [if_neg c47] at H
          have c47b0 : decide (x49_3 < (l0_2.length : Int)) = false := decide_eq_false c47
          clear c47
          replace H := Option.bind_eq_some_iff.mp H
          obtain ⟨t361, A730, H⟩ := H
          replace H : (if t361 = true then (some (t337, x339001_3, true)) else (some (0, ([] : List (List Int)), false))) = some (r1, r2, r3) := H
          have A73 := Aside0.mk A730
          clear A730
          by_cases c74 : t361 = true
          ·subst c74
           have H1 : (some (t337, x339001_3, true)) = some (r1, r2, r3) := by rw [if_pos rfl] at H; exact H
           clear H
           have H := H1
           clear H1
           simp only [Option.some.injEq, Prod.mk.injEq] at H
           obtain ⟨rfl, rfl, rfl⟩ := H
           have hnb75 := NB338_334.out
           have hnc75 := NB334_338.out
           have hnb76 := NB338_335.out
           have hnc76 := NB335_338.out
           have hcz77_0 : wr.cell? ⟨gb338, 0, none⟩ = some (.int .i64 t337) := (blk_cell BK338.out 0).trans rfl
           have hcz77_1 : wr.cell? ⟨gb338, 1, none⟩ = some (u339001) := (blk_cell BK338.out 1).trans rfl
           have hfz77_0 := blk_frozen BK338.out 0
           have hfz77_1 := blk_frozen BK338.out 1
           obtain ⟨Ao78, co78, eo78⟩ := Kd.S_slice HO_339001.out
           subst eo78
           go_wp2_with (first | ((with_reducible refine gate_callee (f := 26) rfl ?_); refine goesL_ (some 77) rfl rfl Try.func26 (by kernel_rfl) rfl #[.agg #[.int .i64 t337, .slice Ao78 x339001_3.length co78]] rfl qG ?_; (with_reducible refine (impl_GoodCnf.calls t337 _ _ x339001_3 true _ ?side1 ?side2 A73.out).mono ?_); (case side1 => repeat (first | exact (Kd.S_reads' HO_339001.out).2.2 | (with_reducible refine Kd.C_alloc ?_ _) | (with_reducible refine Kd.C_drewN ?_ _) | (with_reducible refine Kd.C_drew ?_))); (case side2 => exact (Kd.S_reads' HO_339001.out).2.1); rintro e w79 ⟨rfl, hb⟩; refine ⟨_, rfl, ?_⟩; have n0_ := Aside0.mk (Kd.S_below (by (with_reducible repeat (first | apply Kd.S_alloc | apply Kd.S_drewN | apply Kd.S_drew)); exact HO_339001.out) hb); have n1_ := Aside0.mk (blk_below (g := gb334) (o := .cells #[.int .i64 a0_0, .slice A0_1 l0_1.length c0_1, .slice A0_2 l0_2.length c0_2] 35 (0, 0)) (qK BK334.out) hb); have n2_ := Aside0.mk (blk_below (g := gb335) (o := .cells #[.int .i64 0, .slice none 0 0] 30 (0, 0)) (qK BK335.out) hb); have n3_ := Aside0.mk (blk_below (g := gb338) (o := .cells #[.int .i64 t337, .slice Ao78 x339001_3.length co78] 30 (0, 0)) (qK BK338.out) hb); have n4_ := Aside0.mk (below_step (qB) hb); clear HO_339001; clear BK334; clear BK335; clear BK338; clear HB; have HO_339001 := n0_; have BK334 := n1_; have BK335 := n2_; have BK338 := n3_; have HB := n4_; clear n0_ n1_ n2_ n3_ n4_; (try clear hb); (try clear hb2); (try clear hk); (try clear hi); have hcz80_0 : w79.cell? ⟨gb338, 0, none⟩ = some (.int .i64 t337) := (blk_cell BK338.out 0).trans rfl; have hcz80_1 : w79.cell? ⟨gb338, 1, none⟩ = some (.slice Ao78 x339001_3.length co78) := (blk_cell BK338.out 1).trans rfl; have hfz80_0 := blk_frozen BK338.out 0; have hfz80_1 := blk_frozen BK338.out 1; have hnb81 := NB335_334.out; have hnc81 := NB334_335.out; have hcz82_0 : w79.cell? ⟨gb335, 0, none⟩ = some (.int .i64 0) := (blk_cell BK335.out 0).trans rfl; have hcz82_1 : w79.cell? ⟨gb335, 1, none⟩ = some (.slice none 0 0) := (blk_cell BK335.out 1).trans rfl; have hfz82_0 := blk_frozen BK335.out 0; have hfz82_1 := blk_frozen BK335.out 1))
           refine bodyPost_ret (results_ct rfl _ _ gb335 30 #[.int .i64 t337, .slice Ao78 x339001_3.length co78] (0, 0) _ rfl (by (with_reducible repeat (first | refine blk_drewN ?_ _ | refine blk_drew ?_ | refine blk_alloc ?_ _)); refine blk_put (cs := #[.int .i64 t337, .slice none 0 0]) ?_ 1 _ rfl; refine blk_put (cs := #[.int .i64 0, .slice none 0 0]) ?_ 0 _ rfl; exact qK BK335.out) Try.underlying30 rfl (by kernel_rfl)) rfl ?_
           exact ⟨_, qE, by (with_reducible repeat (first | apply Kd.S_alloc | apply Kd.S_drewN | apply Kd.S_drew)); exact Kd.S_mono (Kd.S_far (p := ⟨gb335, 1, none⟩) (Kd.S_far (p := ⟨gb335, 0, none⟩) (Kd.S_mono HO_339001.out (fun k_ hk => (⟨hk, hk.2.2.1⟩ : _ ∧ k_ ≠ gb335))) (fun _ hk => hk.2) (.int .i64 t337)) (fun _ hk => hk.2) (.slice Ao78 x339001_3.length co78)) (fun _ _ => trivial), qB⟩
          ·replace c74 := Bool.eq_false_iff.mpr c74
           subst c74
           have H1 : (some (0, ([] : List (List Int)), false)) = some (r1, r2, r3) := by rw [if_neg (show ¬ (false = true) by decide)] at H; exact H
           clear H
           have H := H1
           clear H1
           simp only [Option.some.injEq, Prod.mk.injEq] at H
           obtain ⟨rfl, rfl, rfl⟩ := H
           have hnb83 := NB338_334.out
           have hnc83 := NB334_338.out
           have hnb84 := NB338_335.out
           have hnc84 := NB335_338.out
           have hcz85_0 : wr.cell? ⟨gb338, 0, none⟩ = some (.int .i64 t337) := (blk_cell BK338.out 0).trans rfl
           have hcz85_1 : wr.cell? ⟨gb338, 1, none⟩ = some (u339001) := (blk_cell BK338.out 1).trans rfl
           have hfz85_0 := blk_frozen BK338.out 0
           have hfz85_1 := blk_frozen BK338.out 1
           obtain ⟨Ao86, co86, eo86⟩ := Kd.S_slice HO_339001.out
           subst eo86
           go_wp2_with (first | ((with_reducible refine gate_callee (f := 26) rfl ?_); refine goesL_ (some 77) rfl rfl Try.func26 (by kernel_rfl) rfl #[.agg #[.int .i64 t337, .slice Ao86 x339001_3.length co86]] rfl qG ?_; (with_reducible refine (impl_GoodCnf.calls t337 _ _ x339001_3 false _ ?side1 ?side2 A73.out).mono ?_); (case side1 => repeat (first | exact (Kd.S_reads' HO_339001.out).2.2 | (with_reducible refine Kd.C_alloc ?_ _) | (with_reducible refine Kd.C_drewN ?_ _) | (with_reducible refine Kd.C_drew ?_))); (case side2 => exact (Kd.S_reads' HO_339001.out).2.1); rintro e w87 ⟨rfl, hb⟩; refine ⟨_, rfl, ?_⟩; have n0_ := Aside0.mk (Kd.S_below (by (with_reducible repeat (first | apply Kd.S_alloc | apply Kd.S_drewN | apply Kd.S_drew)); exact HO_339001.out) hb); have n1_ := Aside0.mk (blk_below (g := gb334) (o := .cells #[.int .i64 a0_0, .slice A0_1 l0_1.length c0_1, .slice A0_2 l0_2.length c0_2] 35 (0, 0)) (qK BK334.out) hb); have n2_ := Aside0.mk (blk_below (g := gb335) (o := .cells #[.int .i64 0, .slice none 0 0] 30 (0, 0)) (qK BK335.out) hb); have n3_ := Aside0.mk (blk_below (g := gb338) (o := .cells #[.int .i64 t337, .slice Ao86 x339001_3.length co86] 30 (0, 0)) (qK BK338.out) hb); have n4_ := Aside0.mk (below_step (qB) hb); clear HO_339001; clear BK334; clear BK335; clear BK338; clear HB; have HO_339001 := n0_; have BK334 := n1_; have BK335 := n2_; have BK338 := n3_; have HB := n4_; clear n0_ n1_ n2_ n3_ n4_; (try clear hb); (try clear hb2); (try clear hk); (try clear hi); have hnb88 := NB335_334.out; have hnc88 := NB334_335.out; have hcz89_0 : w87.cell? ⟨gb335, 0, none⟩ = some (.int .i64 0) := (blk_cell BK335.out 0).trans rfl; have hcz89_1 : w87.cell? ⟨gb335, 1, none⟩ = some (.slice none 0 0) := (blk_cell BK335.out 1).trans rfl; have hfz89_0 := blk_frozen BK335.out 0; have hfz89_1 := blk_frozen BK335.out 1))
           refine bodyPost_ret (results_ct rfl _ _ gb335 30 #[.int .i64 0, .slice none 0 0] (0, 0) _ rfl (by (with_reducible repeat (first | refine blk_drewN ?_ _ | refine blk_drew ?_ | refine blk_alloc ?_ _)); refine blk_put (cs := #[.int .i64 0, .slice none 0 0]) ?_ 1 _ rfl; refine blk_put (cs := #[.int .i64 0, .slice none 0 0]) ?_ 0 _ rfl; exact qK BK335.out) Try.underlying30 rfl (by kernel_rfl)) rfl ?_
           exact ⟨_, qE, by first | exact Kd.S_nil _ _ _ _ _ | exact Kd.S_nil _ _ _ _ _ | exact Kd.V_nil _ _ _ _ _ | exact Kd.Q_nil _ _ _ _ _ | exact Kd.R_nil _ _ _ _ _, qB⟩

end Go.Proofs.Ytgdmdaalmoioeaa.X
