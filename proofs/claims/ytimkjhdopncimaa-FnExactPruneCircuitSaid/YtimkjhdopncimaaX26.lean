/- Go functions as Lean functions, each with the proof that its call comes to just its answer. Conditions: the arguments are of their kinds. -/
import Derived.Test.YtimkjhdopncimaaX0
import Derived.RangeFuncNested
import Derived.RangeFuncBound
import Derived.RangeFuncCalls
import Derived.RangeFuncLeaves
import Derived.RangeFuncBox
import Derived.Shelf.Abstract
import Derived.Shelf.RegionOpen
import Derived.OwnWalkIn
import Derived.TacticsInMore
import Derived.LoopNIn
import Derived.LoopIn
import Derived.Test.YtimkjhdopncimaaX5
import Derived.Test.YtimkjhdopncimaaX8
namespace Go.Proofs.Ytimkjhdopncimaa.X
open Go.RowKit Go.Proofs.YtimkjhdopncimaaW.PrintWords Go.Proofs.YtimkjhdopncimaaW.PrintLast Go.Proofs.YtimkjhdopncimaaW.PrintMore
attribute [local go_sem] max2_int min2_int max_two min_two max_three min_three max_four min_four   -- for this text's walks alone
set_option linter.unusedVariables false
set_option linter.unusedSimpArgs false

-- HAND
/-! ### cone_back.lean -/
-- IMPORT Derived.RangeFuncNested
-- IMPORT Derived.RangeFuncBound
-- IMPORT Derived.RangeFuncCalls
-- IMPORT Derived.RangeFuncLeaves
-- IMPORT Derived.RangeFuncBox
-- IMPORT Derived.Shelf.Abstract
-- IMPORT Derived.Shelf.RegionOpen
-- IMPORT Derived.OwnWalkIn
-- IMPORT Derived.TacticsInMore
-- IMPORT Derived.LoopNIn
-- IMPORT Derived.LoopIn
attribute [local go_sem] Oper.semAt_some
/-- A circuit's gates from the last to the first, each with its index. -/
def cnRev (g : List S59) : List (Int × S59) := g.zipIdx.reverse.map fun x => ((x.2 : Int), x.1)
theorem cnRev_len (g : List S59) : (cnRev g).length = g.length := by unfold cnRev; simp
theorem cnRev_at (g : List S59) (j : Nat) (h : j < (cnRev g).length) (i : Int) (hi : i = (g.length : Int) - 1 - (j : Int)) : (cnRev g)[j] = (i, rd_T59 g i) := by
 have hl : j < g.length := by rwa [cnRev_len] at h
 have e : i.toNat = g.length - 1 - j := by omega
 have hlt : g.length - 1 - j < g.length := by omega
 have h2 : (cnRev g)[j]? = some (i, rd_T59 g i) := by
  unfold cnRev rd_T59
  rw [e, List.getD_eq_getElem?_getD, List.getElem?_eq_getElem hlt, Option.getD_some, List.getElem?_map, List.getElem?_reverse (by simpa using hl), List.length_zipIdx, List.getElem?_zipIdx, List.getElem?_eq_getElem hlt]
  simp only [Option.map_some, Option.some.injEq, Prod.mk.injEq, and_true]
  omega
 exact (List.getElem?_eq_some_iff.1 h2).2
/-- What a round keeps: all below N but the block g. -/
def cnKp (N g : Nat) (W W' : World) : Prop := W.heap.size ≤ W'.heap.size ∧ ∀ i, i < N → i ≠ g → W'.heap[i]? = W.heap[i]?
theorem cnKp.refl (N g : Nat) (W : World) : cnKp N g W W := ⟨Nat.le_refl _, fun _ _ _ => rfl⟩
theorem cnKp.trans {N g : Nat} {A B C : World} (h : cnKp N g A B) (k : cnKp N g B C) : cnKp N g A C := ⟨Nat.le_trans h.1 k.1, fun i hi hg => (k.2 i hi hg).trans (h.2 i hi hg)⟩
theorem cnKp.cell {N g : Nat} {A B : World} (h : cnKp N g A B) {p : Addr} (hp : p.block < N) (hg : p.block ≠ g) : B.cell? p = A.cell? p := by
 simp [World.cell?, h.2 _ hp hg]
set_option maxRecDepth 100000 in
set_option maxHeartbeats 4000000 in
/-- The iterator that slices.Backward hands back: each gate with its index, from the last to the first, for every body that keeps what lies below N, the block g apart. -/
theorem cn_back1 (F : Fence) (n : Nat) (h85 : F.fn 85) (hro : F.round = none) (hn : 1 ≤ n) (l Bs N g : Nat) (W0 : World) (hN : W0.heap.size ≤ N) (hg : W0.heap.size ≤ g) (A : Option Addr) (cap : Nat) (gs : List S59)
  (HR : Aside0 (Kd.C k59 W0 A gs.length gs)) (hbig : gs.length ≤ 1000000) {α : Type} (val : α → Int × S59) (xs : List α) (hxs : xs.map val = cnRev gs) (J Jx : List α → World → Prop)
  (hY : ∀ pre x W, J pre W → pre.length < xs.length → YieldAt F (n - 1) Try.prog l #[.int .i64 (val x).1, .agg #[.int .i64 (val x).2.f0, .int .i64 (val x).2.f1, .int .i64 (val x).2.f2]] W fun e W' =>
   (e = .returned (.bool true) ∧ J (pre ++ [x]) W' ∧ cnKp N g W W') ∨ (e = .returned (.bool false) ∧ Jx (pre ++ [x]) W'))
  (W : World) (hW : Aside0 (Below W0.heap.size W0 W)) (hBs : W.cell? ⟨Bs, 0, none⟩ = some (.slice A gs.length cap)) (hBl : Bs < N) (hBg : Bs ≠ g) (h0 : J [] W) :
  CallsIn F n Try.prog 85 #[.func (.yield l) #[] #[], .pointer (some ⟨Bs, 0, none⟩)] W fun e W' => (∃ v, e = .returned v) ∧ ((∃ ys, ys = xs ∧ J ys W') ∨ (∃ pre, True ∧ Jx pre W')) := by
 have hlen : xs.length = gs.length := by rw [← cnRev_len, ← hxs, List.length_map]
 have HX := Aside0.mk hxs
 have HBs := Aside0.mk hBs
 have HL := Aside0.mk hlen
 clear hxs hlen
 refine callsIn_of_wp Try.func85 rfl h85 ?_ hro
 simp only [Try.ntmps85, List.size_toArray, List.length_cons, List.length_nil, Nat.reduceAdd, Nat.reduceSub, Array.replicate_succ, Array.replicate_zero, List.push_toArray, List.append_toArray, List.nil_append, List.cons_append]
 gi_wp2
 gi_loopw [3] (fun p wr => ∃ i : Int, -1 ≤ i ∧ i < gs.length ∧ p = .int .i64 i ∧ J (xs.take ((gs.length : Int) - 1 - i).toNat) wr ∧ Aside0 (cnKp N g W wr)) (fun p _ => (intOf p + 1).toNat)
 case atStart => exact ⟨(gs.length : Int) - 1, by omega, by omega, by rfl, by simpa using h0, ⟨cnKp.refl _ _ _⟩⟩
 case round =>
  obtain ⟨i, hi0, hi1, rfl, hJs, HB⟩ := hrel
  by_cases hlt : 0 ≤ i
  ·have hjl : ((gs.length : Int) - 1 - i).toNat < xs.length := by rw [HL.out]; omega
   obtain ⟨x, hx⟩ : ∃ x, xs[((gs.length : Int) - 1 - i).toNat]'hjl = x := ⟨_, rfl⟩
   have hval : val x = (i, rd_T59 gs i) := by
    have h1 := cnRev_at gs ((gs.length : Int) - 1 - i).toNat (by rw [cnRev_len]; omega) i (by omega)
    rw [← h1, ← hx]
    have h2 : (xs.map val)[((gs.length : Int) - 1 - i).toNat]'(by rw [List.length_map]; exact hjl) = val (xs[((gs.length : Int) - 1 - i).toNat]'hjl) := List.getElem_map ..
    rw [← h2]
    congr 1
    exact HX.out
   have htk : xs.take (((gs.length : Int) - 1 - i).toNat + 1) = xs.take ((gs.length : Int) - 1 - i).toNat ++ [x] := by
    rw [List.take_add_one, List.getElem?_eq_getElem hjl, hx]; rfl
   have hnx : ((gs.length : Int) - 1 - (i - 1)).toNat = ((gs.length : Int) - 1 - i).toNat + 1 := by omega
   obtain ⟨fn, tmps, assign, body, hy, hR⟩ := hY _ x wr hJs (by rw [List.length_take]; omega)
   rw [hval] at hy
   dsimp only at hy
   have HT := Aside0.mk htk
   have HN := Aside0.mk hnx
   clear htk hnx hx hval
   obtain ⟨ad, e, hx0, hx1, hx2⟩ := at_T59 HR.out i hlt hi1
   cases e
   replace hx0 := (HB.out.cell (Nat.lt_of_lt_of_le (World.block_lt_of_cell? W0 _ hx0) hN) (Nat.ne_of_lt (Nat.lt_of_lt_of_le (World.block_lt_of_cell? W0 _ hx0) hg))).trans ((hW.out.cell (World.block_lt_of_cell? W0 _ hx0)).trans hx0)
   replace hx1 := (HB.out.cell (Nat.lt_of_lt_of_le (World.block_lt_of_cell? W0 _ hx1) hN) (Nat.ne_of_lt (Nat.lt_of_lt_of_le (World.block_lt_of_cell? W0 _ hx1) hg))).trans ((hW.out.cell (World.block_lt_of_cell? W0 _ hx1)).trans hx1)
   replace hx2 := (HB.out.cell (Nat.lt_of_lt_of_le (World.block_lt_of_cell? W0 _ hx2) hN) (Nat.ne_of_lt (Nat.lt_of_lt_of_le (World.block_lt_of_cell? W0 _ hx2) hg))).trans ((hW.out.cell (World.block_lt_of_cell? W0 _ hx2)).trans hx2)
   have hbs := (HB.out.cell (p := ⟨Bs, 0, none⟩) hBl hBg).trans HBs.out
   gi_wp2
   refine hR.mono ?_
   rintro e W3 (⟨rfl, hJ3, hk3⟩ | ⟨rfl, hJx3⟩)
   ·gi_wp2
    go_roundw
    case rel => exact ⟨i - 1, by omega, by omega, rfl, by rw [HN.out, HT.out]; exact hJ3, ⟨HB.out.trans hk3⟩⟩
    case measure => simp [intOf]; omega
   ·gi_wp2
    refine bodyPost_ret (results_none rfl _ _ _) rfl ?_
    exact ⟨⟨_, rfl⟩, .inr ⟨_, trivial, hJx3⟩⟩
  ·obtain rfl : i = -1 := by omega
   gi_wp2
   go_end0
   have e : ((gs.length : Int) - 1 - -1).toNat = xs.length := by rw [HL.out]; omega
   rw [e, List.take_length] at hJs
   first | exact ⟨⟨_, rfl⟩, .inl ⟨_, rfl, hJs⟩⟩ | exact ⟨⟨_, rfl⟩, .inl hJs⟩ | exact .inl hJs


-- HAND
/-! ### impl_Circuit_coneOf: function 55 -/
attribute [local go_sem] Oper.semAt_some
/-- A slice's value boxed; the iterator captures the box. -/
theorem cn_backward (A : Option Addr) (len cap : Nat) (w : World) :
  Calls Try.prog 78 #[.slice A len cap] w fun e w' => e = .returned (.func (.func 85) #[] #[.pointer (some ⟨w.heap.size, 0, none⟩)]) ∧ w' = w.alloc (.cells #[.slice A len cap] 28) := by
 go_enter Try.func78, Try.ntmps78
 go_wp2
 go_ret
 exact ⟨rfl, rfl⟩
/-- Wires marked. -/
def cnMark (b : List Bool) (ws : List Int) : List Bool := ws.foldl (fun b w => b.set w.toNat true) b
theorem cnMark_len (ws : List Int) : ∀ b, (cnMark b ws).length = b.length := by
 induction ws with
 | nil => intro b; rfl
 | cons x t ih => intro b; exact (ih _).trans List.length_set
theorem cnMark_take (b : List Bool) (ws : List Int) (k : Nat) (h : k < ws.length) : cnMark b (ws.take (k + 1)) = (cnMark b (ws.take k)).set (ws[k]).toNat true := by
 unfold cnMark
 rw [List.take_add_one, List.getElem?_eq_getElem h, Option.toList_some, List.foldl_append]
 rfl
/-- The wires that a gate uses. -/
def cnUses (g : S59) : List Int := if g.f0 = 1 then [] else if g.f0 = 2 then [g.f1] else [g.f1, g.f2]
def cnStep (ins : Int) (b : List Bool) (x : Int × S59) : List Bool := if rdOf false b (ins + x.1) = true then cnMark b (cnUses x.2) else b
def cnIn (T u : Int) : Bool := decide (0 ≤ u) && decide (u < T)
theorem cnIn_is {T u : Int} (h : cnIn T u = true) : 0 ≤ u ∧ u < T := by simpa [cnIn] using h
def cnOk (a : Int) (g : List S59) (ws : List Int) : Bool := decide (0 ≤ a) && (decide (a ≤ 1000) && (decide (g.length ≤ 1000000) && ((g.all fun x => (cnUses x).all (cnIn (a + (g.length : Int)))) && ws.all (cnIn (a + (g.length : Int))))))
theorem cnOk_is {a : Int} {g : List S59} {ws : List Int} (h : cnOk a g ws = true) : 0 ≤ a ∧ a ≤ 1000 ∧ g.length ≤ 1000000 ∧ (∀ x ∈ g, ∀ u ∈ cnUses x, 0 ≤ u ∧ u < a + (g.length : Int)) ∧ ∀ u ∈ ws, 0 ≤ u ∧ u < a + (g.length : Int) := by
 unfold cnOk at h
 simp only [Bool.and_eq_true, decide_eq_true_eq, List.all_eq_true] at h
 exact ⟨h.1, h.2.1, h.2.2.1, fun x hx u hu => cnIn_is (h.2.2.2.1 x hx u hu), fun u hu => cnIn_is (h.2.2.2.2 u hu)⟩
/-- The cone: gates from the last to the first. -/
def impl_Circuit_coneOf.f (a0_0 : Int) (l0_1 : List (S59)) (l0_2 : List Int) (l1 : List Int) : Option (List Bool) :=
 if cnOk a0_0 l0_1 l1 = true then some ((cnRev l0_1).foldl (cnStep a0_0) (cnMark (List.replicate (a0_0 + (l0_1.length : Int)).toNat false) l1)) else none
theorem cn_own_R {α β : Type} {d : Kd α} {e base : Nat} {ok : Nat → Prop} {v : Value} (f : β → List α) : Own (fun (s : β) W => Kd.R d e W base ok v (f s)) := fun s W W' row h hg hr =>
 Kd.R_mono (Kd.R_move (Kd.R_bound h) (fun k hk => by
  obtain ⟨_, _, hlt, q, _, cells, hc⟩ := hk
  refine hg.block k hlt (fun he => ?_)
  obtain ⟨o, ho, hn⟩ := hr k he.symm
  rw [hc] at ho
  cases ho
  cases hn)) (fun _ hk => hk.1)
theorem cn_own_size {β : Type} (n : Nat) : Own (fun (_ : β) W => n ≤ W.heap.size) := fun _ _ _ _ h hg _ => Nat.le_trans h hg.size
theorem cn_own_blk {β : Type} {g t : Nat} {cells : Array Value} : Own (fun (_ : β) W => W.heap[g]? = some (Obj.cells cells t (0, 0))) := fun s W W' row h hg hr => by
 refine (hg.block g (blk_lt h) (fun he => ?_)).trans h
 obtain ⟨o, ho, hn⟩ := hr g he.symm
 rw [h] at ho
 cases ho
 cases hn
theorem cnKp.of_below {N g : Nat} {W W' : World} (h : Below W.heap.size W W') (hN : N ≤ W.heap.size) : cnKp N g W W' := ⟨h.size, fun i hi _ => h.block i (Nat.lt_of_lt_of_le hi hN)⟩
theorem cnKp.of_grown {N g : Nat} {W W' : World} (h : W.grownBy W' (some g)) (hN : N ≤ W.heap.size) : cnKp N g W W' := ⟨h.size, fun i hi hg => h.block i (Nat.lt_of_lt_of_le hi hN) (fun e => hg (Option.some.inj e))⟩
theorem cnKp.put {N g : Nat} (W : World) (l : Nat) (o o' : Obj) (hl : N ≤ l) (h : W.heap[l]? = some o) : cnKp N g W (W.putObj l o') := by
 have hg := grownBy_putObj' W l o'
 have hlt := (Array.getElem?_eq_some_iff.1 h).1
 exact ⟨hg.size, fun i hi _ => hg.block i (by omega) (fun e => by cases e; omega)⟩
theorem cn_kf {B : Nat} {W W' : World} (h : Below W.heap.size W W') : KeepsFrom B W W' := ⟨h.size, fun k o _ hk _ => (h.block k (Array.getElem?_eq_some_iff.1 hk).1).trans hk⟩
theorem cn_uses (g : S59) : impl_Gate_uses.f g.f0 g.f1 g.f2 = some (cnUses g) := by
 unfold impl_Gate_uses.f cnUses
 split
 ·rfl
 ·split <;> rfl
/-- Below behind what a body does: made blocks and the one row. -/
theorem cn_steps (ins : Int) (b : List Bool) (pre : List (Int × S59)) (x : Int × S59) : (pre ++ [x]).foldl (cnStep ins) b = cnStep ins (pre.foldl (cnStep ins) b) x := by rw [List.foldl_append]; rfl
theorem cn_made {e n N : Nat} {W : World} {base : Nat} {ok : Nat → Prop} {v : Value} (h : Kd.R Kd.bool e W base ok v (List.replicate n false)) (hn : ∃ b, v.ownBlock = some b ∧ N ≤ b) : ∃ g c, v = .slice (some ⟨g, 0, none⟩) n c ∧ N ≤ g := by
 obtain ⟨A, c, rfl⟩ := Kd.R_slice h
 rw [List.length_replicate] at h hn ⊢
 obtain ⟨b, hb, hN⟩ := hn
 cases A with
 | none => simp [Value.ownBlock] at hb
 | some ad =>
  obtain ⟨g, rfl⟩ := Kd.R_head h
  have : g = b := by simpa [Value.ownBlock] using hb
  exact ⟨g, c, rfl, by omega⟩
set_option maxRecDepth 100000 in
set_option maxHeartbeats 16000000 in
theorem impl_Circuit_coneOf.calls (a0_0 : Int) (A0_1 : Option Addr) (c0_1 : Nat) (l0_1 : List (S59)) (A0_2 : Option Addr) (c0_2 : Nat) (l0_2 : List Int) (A1 : Option Addr) (c1 : Nat) (l1 : List Int) (r : List Bool) (w : World) (hr0_1 : Kd.C k59 w A0_1 l0_1.length l0_1) (hc0_1 : l0_1.length ≤ c0_1) (hr0_2 : Kd.C (Kd.int .i64) w A0_2 l0_2.length l0_2) (hc0_2 : l0_2.length ≤ c0_2) (hr1 : Kd.C (Kd.int .i64) w A1 l1.length l1) (hc1 : l1.length ≤ c1) (h : impl_Circuit_coneOf.f a0_0 l0_1 l0_2 l1 = some r) :
  Calls Try.prog 55 #[.agg #[.int .i64 a0_0, .slice A0_1 l0_1.length c0_1, .slice A0_2 l0_2.length c0_2], .slice A1 l1.length c1] w fun e w' => ∃ v0_ : Value, e = .returned (v0_) ∧ Kd.R Kd.bool 4 w' w.heap.size (fun _ => True) v0_ r ∧ Below w.heap.size w w' := by
 unfold impl_Circuit_coneOf.f at h
 split at h
 case isFalse => cases h
 rename_i hok
 obtain rfl := Option.some.inj h
 obtain ⟨ha0, ha1, hgl, hgu, hwu⟩ := cnOk_is hok
 have HGU := Aside0.mk hgu
 have HWU := Aside0.mk hwu
 have HR0_1 := Aside0.mk hr0_1
 have HC0_1 := Aside0.mk hc0_1
 have HR0_2 := Aside0.mk hr0_2
 have HC0_2 := Aside0.mk hc0_2
 have hm1 : l1.length ≤ 9223372036854775807 := by have := hr1.2.1; unfold maxLen at this; omega
 have HR1 := Aside0.mk hr1
 have HC1 := Aside0.mk hc1
 have HB := Aside0.mk (Below.refl w.heap.size w)
 clear hr0_1 hc0_1 hr0_2 hc0_2 hr1 hc1 hgu hwu hok h
 obtain ⟨T, hT⟩ : ∃ T : Nat, (T : Int) = a0_0 + (l0_1.length : Int) := ⟨(a0_0 + (l0_1.length : Int)).toNat, by omega⟩
 have hTN : (a0_0 + (l0_1.length : Int)).toNat = T := by omega
 have HT := Aside0.mk hT
 rw [hTN]
 have hTb : T ≤ 1001000 := by omega
 have A3 : Aside0 (impl_Circuit_wires.f a0_0 l0_1 l0_2 = some (T : Int)) := ⟨by unfold impl_Circuit_wires.f; rw [hT]; congr 1; unfold wrap64; omega⟩
 clear hT hTN
 refine (callsIn_wide (n := 8)).1 ?_
 refine callsIn_of_wp_marks Try.func55 rfl trivial ?_ rfl
 simp only [Try.ntmps55, List.size_toArray, List.length_cons, List.length_nil, Nat.reduceAdd, Nat.reduceSub, Array.replicate_succ, Array.replicate_zero, List.push_toArray, List.append_toArray, List.nil_append, List.cons_append]
 refine wpIn_wide.2 ?_
 go_wp2_with (first | ((with_reducible refine gate_dst (N := 2) rfl ?_); refine box_event ?hg (N := 2) ?hd (cs := #[.int .i64 a0_0, .slice A0_1 l0_1.length c0_1, .slice A0_2 l0_2.length c0_2]) (t := 30) ?hr ?_; (case hd => rfl); (case hg => rfl); (case hr => first | (go_simp; done) | (go_simp; rfl)); intro gb2 hg w2 hbox hb; have HG2 := Aside0.mk (by rw [hg]; exact Nat.le_refl _ : w.heap.size ≤ gb2); have HB := Aside0.mk (below_step HB.out hb); have BK2 := Aside0.mk hbox; clear hb hbox hg; have hcz0 : w2.cell? ⟨gb2, 0, none⟩ = some (.int .i64 a0_0) := (blk_cell BK2.out 0).trans rfl; have hcz1 : w2.cell? ⟨gb2, 1, none⟩ = some (.slice A0_1 l0_1.length c0_1) := (blk_cell BK2.out 1).trans rfl; have hcz2 : w2.cell? ⟨gb2, 2, none⟩ = some (.slice A0_2 l0_2.length c0_2) := (blk_cell BK2.out 2).trans rfl) | ((with_reducible refine gate_callee (f := 49) rfl ?_); refine goesL_ (some 13) rfl rfl Try.func49 (by kernel_rfl) rfl #[.agg #[.int .i64 a0_0, .slice A0_1 l0_1.length c0_1, .slice A0_2 l0_2.length c0_2]] rfl qG ?_; (with_reducible refine (impl_Circuit_wires.calls a0_0 _ _ l0_1 _ _ l0_2 (T : Int) _ ?side1 ?side2 ?side3 ?side4 A3.out).mono ?_); (case side1 => exact qC (Kd.C_below HR0_1.out HB.out)); (case side2 => exact HC0_1.out); (case side3 => exact qC (Kd.C_below HR0_2.out HB.out)); (case side4 => exact HC0_2.out); rintro e w3 ⟨rfl, hb⟩; refine ⟨_, rfl, ?_⟩; have HBL3 := Aside0.mk hb; have BK2 := Aside0.mk (blk_below BK2.out hb); have HB := Aside0.mk (below_step HB.out hb); clear hb) | ((with_reducible refine gate_dst (N := 14) rfl ?_); refine Kd.R_make Kd.bool _ 4 rfl (N := 14) rfl 34 _ _ rfl (T : Int) rfl rfl Try.underlying34 (.bool false) 1 info4 rfl (by decide) (by omega) false (ok := fun _ => True) (okp := fun _ => True) rfl (fun _ hk => hk) trivial (by omega) (by simp; omega) (Below.refl _ _) (Nat.le_refl _) ?_; intro v14 w4 ho hb hg_ hnew_; clear hg_; rw [Int.toNat_natCast] at ho; obtain ⟨g, cg, rfl, hgw⟩ := cn_made ho hnew_; have HN2 := Aside0.mk (Nat.lt_of_lt_of_le (blk_lt BK2.out) hgw : gb2 < g); have HGG := Aside0.mk (Nat.le_trans (below_size HB.out) hgw); clear hgw hnew_; have HO := Aside0.mk (Kd.R_lower ho (below_size HB.out)); have BK2 := Aside0.mk (blk_below BK2.out hb); have HB := Aside0.mk (below_step HB.out hb); clear hb ho) | ((with_reducible refine gate_dst (N := 5) rfl ?_); refine box_event ?hg (N := 5) ?hd (cs := #[.slice none 0 0]) (t := 34) ?hr ?_; (case hd => rfl); (case hg => rfl); (case hr => first | (go_simp; done) | (go_simp; rfl)); intro gb5 hg w5 hbox hb; have HG5 := Aside0.mk (by rw [hg]; exact below_size HB.out : w.heap.size ≤ gb5); have HGN := Aside0.mk (by rw [hg]; exact Kd.R_lt HO.out g rfl : g < gb5); have HO := Aside0.mk (Kd.R_below HO.out hb); have BK2 := Aside0.mk (blk_below BK2.out hb); have HB := Aside0.mk (below_step HB.out hb); have BK5 := Aside0.mk hbox; clear hb hbox hg; have hcz50 : w5.cell? ⟨gb5, 0, none⟩ = some (.slice none 0 0) := (blk_cell BK5.out 0).trans rfl; have hfz50 := blk_frozen BK5.out 0))
 clear hcz0 hcz1 hcz2 hcz50 hfz50
 obtain ⟨w6, hw6⟩ : ∃ w6, w5.setCell ⟨gb5, 0, none⟩ (.slice (some ⟨g, 0, none⟩) T cg) = w6 := ⟨_, rfl⟩
 rw [hw6]
 have HB6 : Aside0 (Below w.heap.size w w6) := ⟨by rw [← hw6]; exact below_set HB.out HG5.out⟩
 have HO6 : Aside0 (Kd.R Kd.bool 4 w6 w.heap.size (fun _ => True) (.slice (some ⟨g, 0, none⟩) T cg) (List.replicate T false)) := ⟨by rw [← hw6]; exact Kd.R_set HO.out BK5.out (by decide) 0 _⟩
 have BK26 : Aside0 (w6.heap[gb2]? = some (.cells #[.int .i64 a0_0, .slice A0_1 l0_1.length c0_1, .slice A0_2 l0_2.length c0_2] 30 (0, 0))) := ⟨by rw [← hw6]; exact (Below.heap_setCell w5 ⟨gb5, 0, none⟩ _ gb2 (by have := HN2.out; have := HGN.out; show gb2 ≠ gb5; omega)).trans BK2.out⟩
 have BK56 : Aside0 (w6.heap[gb5]? = some (.cells #[.slice (some ⟨g, 0, none⟩) T cg] 34 (0, 0))) := ⟨by rw [← hw6]; exact blk_put BK5.out 0 _ rfl⟩
 clear hw6 BK2 BK5 HO HB
 go_loopg [17] l1.length (fun gg v17 wr => ∃ kk : Nat, kk ≤ l1.length ∧ l1.length - kk ≤ gg ∧ v17 = .int .i64 kk ∧ Aside0 (Kd.R Kd.bool 4 wr w.heap.size (fun _ => True) (.slice (some ⟨g, 0, none⟩) T cg) (cnMark (List.replicate T false) (l1.take kk))) ∧ Aside0 (wr.heap[gb2]? = some (.cells #[.int .i64 a0_0, .slice A0_1 l0_1.length c0_1, .slice A0_2 l0_2.length c0_2] 30 (0, 0))) ∧ Aside0 (wr.heap[gb5]? = some (.cells #[.slice (some ⟨g, 0, none⟩) T cg] 34 (0, 0))) ∧ Aside0 (Below w.heap.size w wr))
 case atStart => exact ⟨0, Nat.zero_le _, by omega, rfl, HO6, BK26, BK56, HB6⟩
 case round =>
  clear HO6 BK26 BK56 HB6
  obtain ⟨kk, hkk, hgg, rfl, HO, BK2, BK5, HB⟩ := hrel
  have hcz5 : wr.cell? ⟨gb5, 0, none⟩ = some (.slice (some ⟨g, 0, none⟩) T cg) := (blk_cell BK5.out 0).trans rfl
  by_cases hlt : kk < l1.length
  ·have hltz : (kk : Int) < (l1.length : Int) := by omega
   obtain ⟨ad, e, hx⟩ := Kd.at_int HR1.out (kk : Int) (by omega) hltz
   cases e
   replace hx := (HB.out.cell (World.block_lt_of_cell? w _ hx)).trans hx
   have hget : rd l1 (kk : Int) = l1[kk] := by unfold rd; rw [Int.toNat_natCast, List.getD_eq_getElem?_getD, List.getElem?_eq_getElem hlt]; rfl
   have hs := cnMark_take (List.replicate T false) l1 kk hlt
   have hb1 := HWU.out l1[kk] (List.getElem_mem hlt)
   rw [← HT.out] at hb1
   rw [← hget] at hs hb1
   obtain ⟨y, hy⟩ : ∃ y, rd l1 (kk : Int) = y := ⟨_, rfl⟩
   rw [hy] at hx hs hb1
   rw [Int.toNat_natCast] at hx
   clear hy hget
   have HS := Aside0.mk hs
   clear hs
   obtain ⟨hy0, hy1⟩ := hb1
   obtain ⟨hx16, hf16⟩ := Kd.R_celln false HO.out y hy0 hy1
   have HP17 := Kd.R_putg HO.out y true
   have GB16 := HGG
   go_wp2_with ((with_reducible refine gate_store (t := 4) (p := 23) rfl ?_); refine store_event (t := 4) (p := 23) (v := ?vo_w18) (w1 := (wr.setCell ⟨g, y.toNat, none⟩ (.bool true))) ?hg ?ho ?hn ?hr ?_; (case ho => rfl); (case hg => rfl); (case hn => rfl); (case hr => first | (go_simp; done) | (go_simp; rfl)); intro w18 hw; have hg : wr.grownBy w18 (some g) := (by rw [hw]; exact HP17.2); have hp_ : Kd.R Kd.bool 4 w18 w.heap.size (fun _ => True) (.slice (some ⟨g, 0, none⟩) T cg) (cnMark (List.replicate T false) (l1.take (kk + 1))) := (by rw [hw, HS.out]; exact HP17.1); clear HP17; have HO1 := Aside0.mk hp_; have BK21 := Aside0.mk (blk_grown BK2.out hg (Kd.R_ne HO.out BK2.out (by decide))); have BK51 := Aside0.mk (blk_grown BK5.out hg (Kd.R_ne HO.out BK5.out (by decide))); have HB1 := Aside0.mk ((by rw [hw]; exact below_set HB.out GB16.out : Below w.heap.size w w18)); clear hg hw hp_)
   go_roundg (l1.length - (kk + 1))
   case measure => omega
   case rel => exact ⟨kk + 1, by omega, by omega, by go_num, HO1, BK21, BK51, HB1⟩
  ·have hltz : ¬ (kk : Int) < (l1.length : Int) := by omega
   obtain rfl : kk = l1.length := by omega
   rw [List.take_length] at HO
   have hcz1 : wr.cell? ⟨gb2, 1, none⟩ = some (.slice A0_1 l0_1.length c0_1) := (blk_cell BK2.out 1).trans rfl
   have HBS := Aside0.mk (below_size HB.out)
   go_wp2_with ((go_at_call 78); (with_reducible refine (cn_backward _ _ _ _).mono ?_); rintro e w7 ⟨rfl, hw7⟩; have HW7 := Aside0.mk hw7; clear hw7)
   have hwb : Below wr.heap.size wr w7 := by rw [HW7.out]; exact below_alloc (Below.refl _ _) _
   have BK7 := Aside0.mk (show w7.heap[wr.heap.size]? = some (.cells #[.slice A0_1 l0_1.length c0_1] 28 (0, 0)) by rw [HW7.out]; exact blk_new _ _)
   have HO7 := Kd.R_below HO.out hwb
   have BK27 := blk_below BK2.out hwb
   have BK57 := blk_below BK5.out hwb
   have HB7 := below_step HB.out hwb
   have HGw := Aside0.mk (Nat.lt_of_lt_of_le (Kd.R_lt HO.out g rfl) (Nat.le_refl _) : g < wr.heap.size)
   have HS7 := Aside0.mk (show w7.heap.size = wr.heap.size + 1 by rw [HW7.out]; simp)
   clear HO BK2 BK5 hcz5 hcz1 hltz hlt hkk hgg
   have hall : ∀ x ∈ cnRev l0_1, 0 ≤ x.1 ∧ x.1 < (l0_1.length : Int) ∧ ∀ u ∈ cnUses x.2, 0 ≤ u ∧ u < (T : Int) := by
    intro x hx
    obtain ⟨j, hj, rfl⟩ := List.getElem_of_mem hx
    have hj2 : j < l0_1.length := by rwa [cnRev_len] at hj
    rw [cnRev_at l0_1 j hj ((l0_1.length : Int) - 1 - (j : Int)) rfl]
    refine ⟨by show (0 : Int) ≤ (l0_1.length : Int) - 1 - (j : Int); omega, by show (l0_1.length : Int) - 1 - (j : Int) < _; omega, ?_⟩
    intro u hu
    have h2 : ((l0_1.length : Int) - 1 - (j : Int)).toNat < l0_1.length := by omega
    have h3 : rd_T59 l0_1 ((l0_1.length : Int) - 1 - (j : Int)) = l0_1[((l0_1.length : Int) - 1 - (j : Int)).toNat] := by
     unfold rd_T59
     rw [List.getD_eq_getElem?_getD, List.getElem?_eq_getElem h2]; rfl
    rw [HT.out]
    exact HGU.out _ (List.getElem_mem h2) u (by rw [← h3]; exact hu)
   obtain ⟨xs, hxs⟩ : ∃ xs : List { x : Int × S59 // 0 ≤ x.1 ∧ x.1 < (l0_1.length : Int) ∧ ∀ u ∈ cnUses x.2, 0 ≤ u ∧ u < (T : Int) }, xs.map (fun x => x.1) = cnRev l0_1 :=
    ⟨(cnRev l0_1).attachWith _ hall, List.attachWith_map_subtype_val hall⟩
   obtain ⟨b1, hb1⟩ : ∃ b1, cnMark (List.replicate T false) l1 = b1 := ⟨_, rfl⟩
   have hb1l : b1.length = T := by rw [← hb1, cnMark_len, List.length_replicate]
   rw [hb1] at HO7
   have HBL := Aside0.mk hb1l
   have HB1 := Aside0.mk hb1
   clear hb1 hb1l hall
   refine (wpIn_wide (n := 8)).1 ?_
   refine wpIn_rangeFunc_ownH (n := 8) rfl (by decide) (gf := 85) (lb := #[.pointer (some ⟨wr.heap.size, 0, none⟩)]) rfl trivial (enters_of Try.func85 (by kernel_rfl) rfl)
    (encs := fun x : { x : Int × S59 // 0 ≤ x.1 ∧ x.1 < (l0_1.length : Int) ∧ ∀ u ∈ cnUses x.2, 0 ≤ u ∧ u < (T : Int) } => #[.int .i64 x.1.1, .agg #[.int .i64 x.1.2.f0, .int .i64 x.1.2.f1, .int .i64 x.1.2.f2]])
    (Kp := cnKp w7.heap.size g) (S := fun ys => ys = xs) (Sp := fun _ => True) (N := xs.length) (w0 := w7)
    (fun l J Jx W hW _ _ hY h0 => cn_back1 Fence.wide 7 trivial rfl (by decide) l wr.heap.size w7.heap.size g w HB7.size HGG.out A0_1 c0_1 l0_1 HR0_1 hgl (fun x => x.1) xs hxs J Jx hY W ⟨below_step HB7 hW⟩ ((blk_cell (blk_below BK7.out hW) 0).trans rfl) (by have := HS7.out; omega) (by have := HGw.out; omega) h0)
    (fun h k => cnKp.trans h k) (fun W l o o' hl h _ _ => cnKp.put W l o o' hl h) (Below.refl _ _) (fun _ => rfl)
    (fun pre W => Kd.R Kd.bool 4 W w.heap.size (fun _ => True) (.slice (some ⟨g, 0, none⟩) T cg) ((pre.map (fun x => x.1)).foldl (cnStep a0_0) b1) ∧ W.heap[gb2]? = some (.cells #[.int .i64 a0_0, .slice A0_1 l0_1.length c0_1, .slice A0_2 l0_2.length c0_2] 30 (0, 0)) ∧ W.heap[gb5]? = some (.cells #[.slice (some ⟨g, 0, none⟩) T cg] 34 (0, 0)) ∧ w7.heap.size ≤ W.heap.size ∧ Below w.heap.size w W)
    (fun _ _ _ => False)
    (OwnFrom.and (Own.from (cn_own_R _) _) (OwnFrom.and (Own.from cn_own_blk _) (OwnFrom.and (Own.from cn_own_blk _) (OwnFrom.and (Own.from (cn_own_size _) _) (ownFrom_below (Nat.le_refl _) HB7.size)))))
    (fun _ _ _ _ _ hs _ _ => hs)
    ⟨HO7, BK27, BK57, Nat.le_refl _, HB7⟩
    (fun x a' W => ∃ Bx, W.heap[Bx]? = some (.cells #[.int .i64 x.1.2.f0, .int .i64 x.1.2.f1, .int .i64 x.1.2.f2] 59 (0, 0)) ∧ a' = { tmps := #[.agg #[.int .i64 a0_0, .slice A0_1 l0_1.length c0_1, .slice A0_2 l0_2.length c0_2], .slice A1 l1.length c1, .pointer (some ⟨gb2, 0, none⟩), undef, .slice none 0 0, .pointer (some ⟨gb5, 0, none⟩), undef, u7, .int .i64 x.1.1, .pointer (some ⟨Bx, 0, none⟩), undef, undef, .agg #[.int .i64 a0_0, .slice A0_1 l0_1.length c0_1, .slice A0_2 l0_2.length c0_2], .int .i64 (T : Int), .slice (some ⟨g, 0, none⟩) T cg, .slice A1 l1.length c1, .int .i64 (l1.length : Int), .int .i64 (l1.length : Int), .bool false, u19, u20, u21, u22, u23, u24, .pointer (some ⟨gb2, 1, none⟩), .slice A0_1 l0_1.length c0_1, .func (.func 85) #[] #[.pointer (some ⟨wr.heap.size, 0, none⟩)], .int .i64 x.1.1, .agg #[.int .i64 x.1.2.f0, .int .i64 x.1.2.f1, .int .i64 x.1.2.f2], undef, undef, undef, undef, undef, undef, undef, undef, undef, undef, undef, undef, undef, undef, undef, undef, undef, undef, undef], defers := [] })
    (fun x a' _ X Y row hs hg hr => by obtain ⟨Bx, h1, h2⟩ := hs; exact ⟨Bx, cn_own_blk () X Y row h1 hg (fun r e => (hr r e).2), h2⟩)
    ?assign ?body ?done ?stop
   case assign =>
    rintro l pre x W K ⟨hO, h2, h5, hN, hb⟩ hK
    gi_wp2
    exact hK _ _ ((KeepsOthers.alloc _ _).from _) (cnKp.of_below (below_alloc (Below.refl _ _) _) hN) ⟨Kd.R_alloc hO _, blk_alloc h2 _, blk_alloc h5 _, Nat.le_trans hN (below_alloc (Below.refl _ _) _).size, below_alloc hb _⟩ ⟨W.heap.size, blk_new _ _, rfl⟩
   case body =>
    rintro l pre x a' W hl ⟨rr, hrr⟩ ⟨hO, h2, h5, hN, hb⟩ ⟨Bx, bX, rfl⟩ hlt
    have hx0 := x.2.1
    have hx1 := x.2.2.1
    have HU := Aside0.mk x.2.2.2
    have hcz5 : W.cell? ⟨gb5, 0, none⟩ = some (.slice (some ⟨g, 0, none⟩) T cg) := (blk_cell h5 0).trans rfl
    have hcz2 : W.cell? ⟨gb2, 0, none⟩ = some (.int .i64 a0_0) := (blk_cell h2 0).trans rfl
    have hcx0 : W.cell? ⟨Bx, 0, none⟩ = some (.int .i64 x.1.2.f0) := (blk_cell bX 0).trans rfl
    have hcx1 : W.cell? ⟨Bx, 1, none⟩ = some (.int .i64 x.1.2.f1) := (blk_cell bX 1).trans rfl
    have hcx2 : W.cell? ⟨Bx, 2, none⟩ = some (.int .i64 x.1.2.f2) := (blk_cell bX 2).trans rfl
    obtain ⟨b, hbe⟩ : ∃ b, (pre.map (fun x => x.1)).foldl (cnStep a0_0) b1 = b := ⟨_, rfl⟩
    rw [hbe] at hO
    have HO := Aside0.mk hO
    have HBE := Aside0.mk hbe
    have H2 := Aside0.mk h2
    have H5 := Aside0.mk h5
    have HX := Aside0.mk bX
    have HBW := Aside0.mk hb
    have HTT := HT.out
    have hi0 : 0 ≤ a0_0 + x.1.1 := by omega
    have hi1 : a0_0 + x.1.1 < (T : Int) := by omega
    obtain ⟨hxi, hfi⟩ := Kd.R_celln false hO (a0_0 + x.1.1) hi0 hi1
    clear hO hbe h2 h5 bX hb HTT
    by_cases hin : rdOf false b (a0_0 + x.1.1) = true
    ·rw [hin] at hxi
     obtain ⟨us, hus⟩ : ∃ us, cnUses x.1.2 = us := ⟨_, rfl⟩
     have HUS := Aside0.mk hus
     have HCU := cn_uses x.1.2
     rw [hus] at HCU
     have HUI := Aside0.mk (show ∀ u ∈ us, 0 ≤ u ∧ u < (T : Int) by rw [← hus]; exact HU.out)
     have hulen : us.length ≤ 2 := by
      rw [← hus]; unfold cnUses
      split
      ·simp
      ·split <;> simp
     clear hus HU
     have HC := Aside0.mk HCU
     clear HCU
     gi_wp2
     refine ⟨trivial, ?_⟩
     refine (CallsIn.inRound l (callsIn_wide.2 (impl_Gate_uses.calls _ _ _ us W HC.out))).mono ?_
     rintro e w1 ⟨v, rfl, hv, hbv⟩
     obtain ⟨Au, cu, eu⟩ := Kd.R_slice hv
     subst eu
     have HO1 := Aside0.mk (Kd.R_below HO.out hbv)
     have H21 := Aside0.mk (blk_below H2.out hbv)
     have H51 := Aside0.mk (blk_below H5.out hbv)
     have HV1 := Aside0.mk hv
     have HN1 := Aside0.mk (Nat.le_trans hN hbv.size)
     have HBW1 := Aside0.mk (below_step HBW.out hbv)
     have HKF1 := Aside0.mk (cn_kf (B := w7.heap.size) hbv)
     have HKP1 := Aside0.mk (cnKp.of_below (N := w7.heap.size) (g := g) hbv hN)
     clear hv hbv HO H2 H5 HX HBW hcz5 hcz2 hcx0 hcx1 hcx2 hxi hfi hi0 hi1
     gi_wp2
     gi_loopw [40] (fun p wz => ∃ kk : Nat, kk ≤ us.length ∧ p = .int .i64 kk ∧ Aside0 (Kd.R Kd.bool 4 wz w.heap.size (fun _ => True) (.slice (some ⟨g, 0, none⟩) T cg) (cnMark b (us.take kk))) ∧ Aside0 (wz.heap[gb2]? = some (.cells #[.int .i64 a0_0, .slice A0_1 l0_1.length c0_1, .slice A0_2 l0_2.length c0_2] 30 (0, 0))) ∧ Aside0 (wz.heap[gb5]? = some (.cells #[.slice (some ⟨g, 0, none⟩) T cg] 34 (0, 0))) ∧ Aside0 (Kd.R (Kd.int .i64) 3 wz W.heap.size (fun _ => True) (.slice Au us.length cu) us) ∧ Aside0 (KeepsFrom w7.heap.size W wz) ∧ Aside0 (cnKp w7.heap.size g W wz) ∧ Aside0 (w7.heap.size ≤ wz.heap.size) ∧ Aside0 (Below w.heap.size w wz)) (fun p _ => us.length - (intOf p).toNat)
     case atStart => exact ⟨0, Nat.zero_le _, rfl, HO1, H21, H51, HV1, HKF1, HKP1, HN1, HBW1⟩
     case round =>
      clear HO1 H21 H51 HV1 HKF1 HKP1 HN1 HBW1
      obtain ⟨kk, hkk, rfl, HO, H2, H5, HV, HKF, HKP, HNN, HBW⟩ := hrel
      have hcz5 : wr.cell? ⟨gb5, 0, none⟩ = some (.slice (some ⟨g, 0, none⟩) T cg) := (blk_cell H5.out 0).trans rfl
      by_cases hlt : kk < us.length
      ·have hltz : (kk : Int) < (us.length : Int) := by omega
       obtain ⟨ad, e, hx⟩ := Kd.at_int (Kd.R_reads' HV.out).2.2 (kk : Int) (by omega) hltz
       cases e
       have hget : rd us (kk : Int) = us[kk] := by unfold rd; rw [Int.toNat_natCast, List.getD_eq_getElem?_getD, List.getElem?_eq_getElem hlt]; rfl
       have hs := cnMark_take b us kk hlt
       have hbd := HUI.out us[kk] (List.getElem_mem hlt)
       rw [← hget] at hs hbd
       obtain ⟨y, hy⟩ : ∃ y, rd us (kk : Int) = y := ⟨_, rfl⟩
       rw [hy] at hx hs hbd
       rw [Int.toNat_natCast] at hx
       clear hy hget
       have HS := Aside0.mk hs
       clear hs
       obtain ⟨hy0, hy1⟩ := hbd
       obtain ⟨hx16, hf16⟩ := Kd.R_celln false HO.out y hy0 hy1
       have HP17 := Aside0.mk (Kd.R_putg HO.out y true)
       gi_wp2
       go_roundw
       case rel =>
        obtain ⟨cells, hcg⟩ := Kd.R_typed HO.out g rfl
        exact ⟨kk + 1, by omega, by go_num, ⟨by rw [HS.out]; exact HP17.out.1⟩, ⟨blk_grown H2.out HP17.out.2 (Kd.R_ne HO.out H2.out (by decide))⟩, ⟨blk_grown H5.out HP17.out.2 (Kd.R_ne HO.out H5.out (by decide))⟩, ⟨Kd.R_set HV.out hcg (by decide) _ _⟩, ⟨HKF.out.trans ((KeepsOthers.setCell _ _ _).from _)⟩, ⟨HKP.out.trans (cnKp.of_grown HP17.out.2 HNN.out)⟩, ⟨Nat.le_trans HNN.out HP17.out.2.size⟩, ⟨below_set HBW.out HGG.out⟩⟩
       case measure => simp [intOf]; omega
      ·obtain rfl : kk = us.length := by omega
       rw [List.take_length] at HO
       gi_wp2
       exact ⟨HKF.out, HKP.out, by rw [List.map_append, List.map_cons, List.map_nil, cn_steps, HBE.out]; unfold cnStep; rw [if_pos hin, HUS.out]; exact HO.out, H2.out, H5.out, HNN.out, HBW.out⟩
    ·have hin0 : rdOf false b (a0_0 + x.1.1) = false := Bool.eq_false_iff.mpr hin
     rw [hin0] at hxi
     gi_wp2
     exact ⟨(KeepsOthers.refl _).from _, cnKp.refl _ _ _, by rw [List.map_append, List.map_cons, List.map_nil, cn_steps, HBE.out]; unfold cnStep; rw [if_neg hin]; exact HO.out, H2.out, H5.out, hN, HBW.out⟩
   case done =>
    rintro D zs W hD rfl ⟨hO, h2, h5, hN, hb⟩ hKd
    have hcz5 : W.cell? ⟨gb5, 0, none⟩ = some (.slice (some ⟨g, 0, none⟩) T cg) := (blk_cell h5 0).trans rfl
    go_wp2
    refine ⟨by simp, .inl ⟨_, _, rfl, run_takeDeferred hKd, ?_⟩⟩
    refine ⟨_, results_tmp rfl _ _ _, _, rfl, ?_, hb.trans (belowK_b (w := w) (Nat.le_refl _) W D _ _ (by have := HB7.size; omega) hKd rfl rfl)⟩
    rw [hxs] at hO
    rw [HB1.out]
    exact cn_own_R (fun (_ : Unit) => (cnRev l0_1).foldl (cnStep a0_0) b1) () W _ (some D) hO (grownBy_putObj' W D _) (fun r e => by cases e; exact ⟨_, hKd, rfl⟩)
   case stop =>
    rintro D c pre W _ _ h _
    exact h.elim


/-! ### laws_heldIntS: function 29 -/
def laws_heldIntS.l0 : Nat → List Int → Int → Int → Option (Int)
 | 0, _, _, _ => none
 | k + 1, x0, x1, x5 => if x5 < (x0.length : Int) then (if 0 ≤ x5 then (if (rd x0 x5) = x1 then (laws_heldIntS.l0 k x0 (wrap64 (x1 + 1)) (wrap64 (x5 + 1))) else (some (-1))) else (none)) else (some x1)
def laws_heldIntS.f (k : Nat) (l0 : List Int) (a1 : Int) : Option (Int) := laws_heldIntS.l0 k l0 a1 0
theorem laws_heldIntS.mono_l : ∀ k, (∀ y0 y1 y2, LeO (laws_heldIntS.l0 k y0 y1 y2) (laws_heldIntS.l0 (k + 1) y0 y1 y2))
 | 0 => fun _ _ _ r h => by simp [laws_heldIntS.l0] at h
 | k + 1 => by
  have ih0 := laws_heldIntS.mono_l k
  ·intro y0 y1 y2
   unfold laws_heldIntS.l0
   repeat' first
   | (with_reducible exact ih0 _ _ _)
   | (with_reducible first | exact LeO.refl _ | exact LeO.none _ | refine LeO.ite ?_ ?_ | refine LeO.bind ?_ (fun _ => ?_))
   | exact ih0 _ _ _
   | exact LeO.none _ | refine LeO.ite ?_ ?_ | refine LeO.bind ?_ (fun _ => ?_)
theorem laws_heldIntS.mono : ∀ a0 a1 k, LeO (laws_heldIntS.f k a0 a1) (laws_heldIntS.f (k + 1) a0 a1) := by
 intro a0 a1 k
 have ih0 := laws_heldIntS.mono_l k
 unfold laws_heldIntS.f
 repeat' first
   | (with_reducible exact ih0 _ _ _)
   | (with_reducible first | exact LeO.refl _ | exact LeO.none _ | refine LeO.ite ?_ ?_ | refine LeO.bind ?_ (fun _ => ?_))
   | exact ih0 _ _ _
   | exact LeO.none _ | refine LeO.ite ?_ ?_ | refine LeO.bind ?_ (fun _ => ?_)
set_option maxHeartbeats 8000000 in
set_option maxRecDepth 100000 in
theorem laws_heldIntS.calls (k : Nat) (A0 : Option Addr) (c0 : Nat) (l0 : List Int) (a1 : Int) (r : Int) (w : World) (hr0 : Kd.C (Kd.int .i64) w A0 l0.length l0) (hc0 : l0.length ≤ c0) (h : laws_heldIntS.f k l0 a1 = some r) :
  Calls Try.prog 29 #[.slice A0 l0.length c0, .int .i64 a1] w fun e w' => e = .returned (.int .i64 r) ∧ Drawn0 w w' := by
 have HR0 := Aside0.mk hr0
 have HC0 := Aside0.mk hc0
 clear hr0 hc0
 have H : (laws_heldIntS.l0 k l0 a1 0) = some r := h
 clear h
 have H' := Aside0.mk H
 clear H
 go_enter Try.func29, Try.ntmps29
 go_wp2
 go_loopg [1, 5] k (fun kq v1 v5 w' => ∃ (x1_1 : Int) (x5_1 : Int), v1 = .int .i64 x1_1 ∧ v5 = .int .i64 x5_1 ∧ Aside0 (laws_heldIntS.l0 kq l0 x1_1 x5_1 = some r) ∧ Aside0 (kq ≤ k) ∧ Drawn0 w w')
 case atStart => exact ⟨(a1), (0), qS, qS, H', ⟨Nat.le_refl _⟩, by repeat (first | exact Drawn0.refl _ | apply Drawn0.step)⟩
 case round =>
  clear H'
  try clear c2
  try clear p2
  obtain ⟨x1_1, x5_1, rfl, rfl, HA, HK1, ⟨m1, rfl⟩⟩ := hrel
  cases gk with
  | zero => exact absurd HA.out (by simp [laws_heldIntS.l0])
  | succ k1 =>
   have H := HA.out
   clear HA
   simp only [laws_heldIntS.l0] at H
   by_cases c3 : x5_1 < (l0.length : Int)
   ·rw [if_pos c3] at H
    have c3b0 : decide (x5_1 < (l0.length : Int)) = true := decide_eq_true c3
    clear c3
    by_cases c4 : 0 ≤ x5_1
    ·rw [if_pos c4] at H
     have c4b0 : decide (0 ≤ x5_1) = true := decide_eq_true c4
     clear c4
     by_cases c5 : (rd l0 x5_1) = x1_1
     ·rw [if_pos c5] at H
      have c5b0 : ((rd l0 x5_1) == x1_1) = true := beq_iff_eq.mpr c5
      have c5b1 : ((rd l0 x5_1) != x1_1) = false := bne_eq_false_iff_eq.mpr c5
      clear c5
      have H' := Aside0.mk H
      clear H
      have p561 : 0 ≤ (x5_1 : Int) := qD
      have q561 : x5_1 < (l0.length : Int) := qD
      obtain ⟨ad561, e561, hx561_0⟩ := Kd.at_int HR0.out x5_1 p561 q561
      cases e561
      replace p561 := eq_true p561
      replace q561 := eq_true q561
      go_wp2
      go_roundg k1
      case measure => have := HK1.out; omega
      case rel => exact ⟨(wrap64 (x1_1 + 1)), (wrap64 (x5_1 + 1)), qS, qS, H', ⟨by have := HK1.out; omega⟩, by repeat (first | exact Drawn0.refl _ | apply Drawn0.step)⟩
     ·rw [if_neg c5] at H
      have c5b0 : ((rd l0 x5_1) == x1_1) = false := beq_eq_false_iff_ne.mpr c5
      have c5b1 : ((rd l0 x5_1) != x1_1) = true := bne_iff_ne.mpr c5
      obtain rfl := Option.some.inj H
      have p561 : 0 ≤ (x5_1 : Int) := qD
      have q561 : x5_1 < (l0.length : Int) := qD
      obtain ⟨ad561, e561, hx561_0⟩ := Kd.at_int HR0.out x5_1 p561 q561
      cases e561
      replace p561 := eq_true p561
      replace q561 := eq_true q561
      go_wp2
      go_ret
      exact ⟨by first | rfl | (simp; done) | (simp [*]; done), by repeat (first | exact Drawn0.refl _ | apply Drawn0.step)⟩
    ·rw [if_neg c4] at H
     exact absurd H (by simp)
   ·rw [if_neg c3] at H
    have c3b0 : decide (x5_1 < (l0.length : Int)) = false := decide_eq_false c3
    clear c3
    obtain rfl := Option.some.inj H
    go_wp2
    go_ret
    exact ⟨by first | rfl | (simp; done) | (simp [*]; done), by repeat (first | exact Drawn0.refl _ | apply Drawn0.step)⟩


-- HAND
/-! ### spec_l1Has: function 56 -/
def spec_l1Has.l0 : Nat → Int → List Int → Int → Int → Option (Bool)
 | 0, _, _, _, _ => none
 | k + 1, x1, x7, x8, x9 => if x9 < x8 then (if 0 ≤ x9 then (if x9 < (x7.length : Int) then (if (rd x7 x9) = x1 then (some true) else (spec_l1Has.l0 k x1 x7 x8 (wrap64 (x9 + 1)))) else (none)) else (none)) else (some false)
def spec_l1Has.f (k : Nat) (l0 : List Int) (a1 : Int) : Option (Bool) := spec_l1Has.l0 k a1 l0 (l0.length : Int) 0
theorem spec_l1Has.mono_l : ∀ k, (∀ y0 y1 y2 y3, LeO (spec_l1Has.l0 k y0 y1 y2 y3) (spec_l1Has.l0 (k + 1) y0 y1 y2 y3))
 | 0 => fun _ _ _ _ r h => by simp [spec_l1Has.l0] at h
 | k + 1 => by
  have ih0 := spec_l1Has.mono_l k
  ·intro y0 y1 y2 y3
   unfold spec_l1Has.l0
   repeat' first
   | (with_reducible exact ih0 _ _ _ _)
   | (with_reducible first | exact LeO.refl _ | exact LeO.none _ | refine LeO.ite ?_ ?_ | refine LeO.bind ?_ (fun _ => ?_))
   | exact ih0 _ _ _ _
   | exact LeO.none _ | refine LeO.ite ?_ ?_ | refine LeO.bind ?_ (fun _ => ?_)
theorem spec_l1Has.mono : ∀ a0 a1 k, LeO (spec_l1Has.f k a0 a1) (spec_l1Has.f (k + 1) a0 a1) := by
 intro a0 a1 k
 have ih0 := spec_l1Has.mono_l k
 unfold spec_l1Has.f
 repeat' first
   | (with_reducible exact ih0 _ _ _ _)
   | (with_reducible first | exact LeO.refl _ | exact LeO.none _ | refine LeO.ite ?_ ?_ | refine LeO.bind ?_ (fun _ => ?_))
   | exact ih0 _ _ _ _
   | exact LeO.none _ | refine LeO.ite ?_ ?_ | refine LeO.bind ?_ (fun _ => ?_)
set_option maxHeartbeats 8000000 in
set_option maxRecDepth 100000 in
theorem spec_l1Has.calls0 (k : Nat) (A0 : Option Addr) (c0 : Nat) (l0 : List Int) (a1 : Int) (r : Bool) (w : World) (hr0 : Kd.C (Kd.int .i64) w A0 l0.length l0) (hc0 : l0.length ≤ c0) (h : spec_l1Has.f k l0 a1 = some r) :
  Calls Try.prog 56 #[.slice A0 l0.length c0, .int .i64 a1] w fun e w' => e = .returned (.bool r) ∧ Drawn0 w w' := by
 have HR0 := Aside0.mk hr0
 have HC0 := Aside0.mk hc0
 clear hr0 hc0
 have H : (spec_l1Has.l0 k a1 l0 (l0.length : Int) 0) = some r := h
 clear h
 have H' := Aside0.mk H
 clear H
 go_enter Try.func56, Try.ntmps56
 go_wp2
 go_loopg [9] k (fun kq v9 w' => ∃ (x9_1 : Int), v9 = .int .i64 x9_1 ∧ Aside0 (spec_l1Has.l0 kq a1 l0 (l0.length : Int) x9_1 = some r) ∧ Aside0 (kq ≤ k) ∧ Drawn0 w w')
 case atStart => exact ⟨(0), qS, H', ⟨Nat.le_refl _⟩, by repeat (first | exact Drawn0.refl _ | apply Drawn0.step)⟩
 case round =>
  clear H'
  try clear p2
  obtain ⟨x9_1, rfl, HA, HK1, ⟨m1, rfl⟩⟩ := hrel
  cases gk with
  | zero => exact absurd HA.out (by simp [spec_l1Has.l0])
  | succ k1 =>
   have H := HA.out
   clear HA
   simp only [spec_l1Has.l0] at H
   by_cases c3 : x9_1 < (l0.length : Int)
   ·rw [if_pos c3] at H
    have c3b0 : decide (x9_1 < (l0.length : Int)) = true := decide_eq_true c3
    clear c3
    by_cases c4 : 0 ≤ x9_1
    ·rw [if_pos c4] at H
     have c4b0 : decide (0 ≤ x9_1) = true := decide_eq_true c4
     clear c4
     by_cases c5 : x9_1 < (l0.length : Int)
     ·rw [if_pos c5] at H
      have c5b0 : decide (x9_1 < (l0.length : Int)) = true := decide_eq_true c5
      clear c5
      by_cases c6 : (rd l0 x9_1) = a1
      ·rw [if_pos c6] at H
       have c6b0 : ((rd l0 x9_1) == a1) = true := beq_iff_eq.mpr c6
       have c6b1 : ((rd l0 x9_1) != a1) = false := bne_eq_false_iff_eq.mpr c6
       clear c6
       obtain rfl := Option.some.inj H
       have p616 : 0 ≤ (x9_1 : Int) := qD
       have q616 : x9_1 < (l0.length : Int) := qD
       obtain ⟨ad616, e616, hx616_0⟩ := Kd.at_int HR0.out x9_1 p616 q616
       cases e616
       replace p616 := eq_true p616
       replace q616 := eq_true q616
       go_wp2
       go_ret
       exact ⟨by first | rfl | (simp; done) | (simp [*]; done), by repeat (first | exact Drawn0.refl _ | apply Drawn0.step)⟩
      ·rw [if_neg c6] at H
       have c6b0 : ((rd l0 x9_1) == a1) = false := beq_eq_false_iff_ne.mpr c6
       have c6b1 : ((rd l0 x9_1) != a1) = true := bne_iff_ne.mpr c6
       have H' := Aside0.mk H
       clear H
       have p616 : 0 ≤ (x9_1 : Int) := qD
       have q616 : x9_1 < (l0.length : Int) := qD
       obtain ⟨ad616, e616, hx616_0⟩ := Kd.at_int HR0.out x9_1 p616 q616
       cases e616
       replace p616 := eq_true p616
       replace q616 := eq_true q616
       go_wp2
       go_roundg k1
       case measure => have := HK1.out; omega
       case rel => exact ⟨(wrap64 (x9_1 + 1)), qS, H', ⟨by have := HK1.out; omega⟩, by repeat (first | exact Drawn0.refl _ | apply Drawn0.step)⟩
     ·rw [if_neg c5] at H
      exact absurd H (by simp)
    ·rw [if_neg c4] at H
     exact absurd H (by simp)
   ·rw [if_neg c3] at H
    have c3b0 : decide (x9_1 < (l0.length : Int)) = false := decide_eq_false c3
    clear c3
    obtain rfl := Option.some.inj H
    go_wp2
    go_ret
    exact ⟨by first | rfl | (simp; done) | (simp [*]; done), by repeat (first | exact Drawn0.refl _ | apply Drawn0.step)⟩
/-- What it leaves lies as it lay. -/
theorem spec_l1Has.calls (k : Nat) (A0 : Option Addr) (c0 : Nat) (l0 : List Int) (a1 : Int) (r : Bool) (w : World) (hr0 : Kd.C (Kd.int .i64) w A0 l0.length l0) (hc0 : l0.length ≤ c0) (h : spec_l1Has.f k l0 a1 = some r) :
  Calls Try.prog 56 #[.slice A0 l0.length c0, .int .i64 a1] w fun e w' => e = .returned (.bool r) ∧ Below w.heap.size w w' :=
 (spec_l1Has.calls0 k A0 c0 l0 a1 r w hr0 hc0 h).mono fun _ _ h => ⟨h.1, h.2.below⟩

end Go.Proofs.Ytimkjhdopncimaa.X
