/- Go functions as Lean functions, each with the proof that its call comes to just its answer. Conditions: the arguments are of their kinds. -/
import Derived.Test.YtckgeanmljmhfaaX0
import Derived.StillTailTactics
import Derived.Lib.SliceRun
namespace Go.Proofs.Ytckgeanmljmhfaa.X
open Go.RowKit Go.Proofs.YtckgeanmljmhfaaW.PrintWords Go.Proofs.YtckgeanmljmhfaaW.PrintLast Go.Proofs.YtckgeanmljmhfaaW.PrintMore
attribute [local go_sem] max2_int min2_int max_two min_two max_three min_three max_four min_four   -- for this text's walks alone
set_option linter.unusedVariables false
set_option linter.unusedSimpArgs false

/-! ### spec_l1In: function 56 -/
def spec_l1In.f (a0 : Int) (a1 : Int) (a2 : Int) : Option (Bool) := if a0 ≥ a1 then (some (decide (a0 ≤ a2))) else (some false)
set_option maxHeartbeats 8000000 in
set_option maxRecDepth 100000 in
theorem spec_l1In.calls (a0 : Int) (a1 : Int) (a2 : Int) (r : Bool) (w : World) (h : spec_l1In.f a0 a1 a2 = some r) :
  Calls Try.prog 56 #[.int .i64 a0, .int .i64 a1, .int .i64 a2] w fun e w' => e = .returned (.bool r) ∧ Drawn0 w w' := by
 have H : (if a0 ≥ a1 then (some (decide (a0 ≤ a2))) else (some false)) = some r := h
 clear h
 by_cases c4 : a0 ≥ a1
 ·rw [if_pos c4] at H
  have c4b0 : decide (a1 ≤ a0) = true := decide_eq_true c4
  clear c4
  obtain rfl := Option.some.inj H
  go_enter Try.func56, Try.ntmps56
  go_wp2
  go_ret
  exact ⟨by first | rfl | (simp; done) | (simp [*]; done), by repeat (first | exact Drawn0.refl _ | apply Drawn0.step)⟩
 ·rw [if_neg c4] at H
  have c4b0 : decide (a1 ≤ a0) = false := decide_eq_false c4
  clear c4
  obtain rfl := Option.some.inj H
  go_enter Try.func56, Try.ntmps56
  go_wp2
  go_ret
  exact ⟨by first | rfl | (simp; done) | (simp [*]; done), by repeat (first | exact Drawn0.refl _ | apply Drawn0.step)⟩







/-! ### spec_l5Wide: function 34 -/
def spec_l5Wide.f (a0 : Int) : Option (Bool) := (spec_l1In.f a0 1 4).bind fun t129 => (some t129)
set_option maxHeartbeats 8000000 in
set_option maxRecDepth 100000 in
theorem spec_l5Wide.calls (a0 : Int) (r : Bool) (w : World) (h : spec_l5Wide.f a0 = some r) :
  Calls Try.prog 34 #[.int .i64 a0] w fun e w' => e = .returned (.bool r) ∧ Drawn0 w w' := by
 have H : ((spec_l1In.f a0 1 4).bind fun t129 => (some t129)) = some r := h
 clear h
 replace H := Option.bind_eq_some_iff.mp H
 obtain ⟨t129, A20, H⟩ := H
 replace H : (some t129) = some r := H
 have A2 := Aside0.mk A20
 clear A20
 obtain rfl := Option.some.inj H
 go_enter Try.func34, Try.ntmps34
 go_wp2_with (first | ((with_reducible refine gate_callee (f := 56) rfl ?_); refine goesL_ (some 4) rfl rfl Try.func56 (by kernel_rfl) rfl #[.int .i64 a0, .int .i64 1, .int .i64 4] rfl qG ?_; (with_reducible refine (spec_l1In.calls a0 1 4 t129 _ A2.out).mono ?_); rintro e w' ⟨rfl, ⟨nd, rfl⟩⟩; refine ⟨_, rfl, ?_⟩))
 go_ret
 exact ⟨by first | rfl | (simp; done) | (simp [*]; done), by repeat (first | exact Drawn0.refl _ | apply Drawn0.step)⟩



-- HAND
/-! ### bd_shared.lean -/
-- IMPORT Derived.StillTailTactics
/-- What the calls of a circuit that grows leave: all but the circuit's own cells (G) and rows of gates that lie at base or behind it. -/
structure Fr (tG G base : Nat) (w w' : World) : Prop where
 os : w'.os = w.os
 tape : w'.tape = w.tape
 output : w'.output = w.output
 size : w.heap.size ≤ w'.heap.size
 block : ∀ k, k < w.heap.size → k ≠ G → (base ≤ k → ∀ c, w.heap[k]? ≠ some (.cells c tG (0, 0))) → w'.heap[k]? = w.heap[k]?
section
variable {tC tG tI G base B : Nat} {w w1 w2 w' W : World}
theorem Fr.refl (tG G base : Nat) (w : World) : Fr tG G base w w := ⟨rfl, rfl, rfl, Nat.le_refl _, fun _ _ _ _ => rfl⟩
theorem Fr.trans (h : Fr tG G base w w1) (h2 : Fr tG G base w1 w2) : Fr tG G base w w2 :=
 ⟨h2.os.trans h.os, h2.tape.trans h.tape, h2.output.trans h.output, Nat.le_trans h.size h2.size, fun k hk hG ht => by
  have e := h.block k hk hG ht
  exact (h2.block k (Nat.lt_of_lt_of_le hk h.size) hG (fun hb c => by rw [e]; exact ht hb c)).trans e⟩
theorem Fr.of_below (h : Below w.heap.size w w1) : Fr tG G base w w1 := ⟨h.os, h.tape, h.output, h.size, fun k hk _ _ => h.block k hk⟩
theorem Fr.step_below (h : Fr tG G base w w1) (h2 : Below w1.heap.size w1 w2) : Fr tG G base w w2 := h.trans (Fr.of_below h2)
theorem Fr.alloc (h : Fr tG G base w w1) (o : Obj) : Fr tG G base w (w1.alloc o) := h.step_below (below_alloc (Below.refl _ _) o)
theorem Fr.drewN (h : Fr tG G base w w1) (n : Nat) : Fr tG G base w (w1.drewN n) := h.step_below (pw_below_drewN (Below.refl _ _) n)
theorem Fr.drew (h : Fr tG G base w w1) : Fr tG G base w w1.drew := h.step_below (below_drew (Below.refl _ _))
theorem Fr.below (h : Fr tG G base w w1) (hG : B ≤ G) (hb : B ≤ base) (hB : B ≤ w.heap.size) : Below B w w1 :=
 ⟨h.os, h.tape, h.output, h.size, fun k hk => h.block k (by omega) (by omega) (fun h2 => absurd h2 (by omega))⟩
theorem Fr.blk (h : Fr tG G base w w1) {k : Nat} {c : Array Value} {t : Nat} (hk : w.heap[k]? = some (.cells c t (0, 0))) (hG : k ≠ G) (ht : t ≠ tG) : w1.heap[k]? = some (.cells c t (0, 0)) :=
 (h.block k (blk_lt hk) hG (fun _ c' h' => by
  rw [hk] at h'
  injection h' with h'
  injection h' with _ h'
  exact ht h')).trans hk
section
variable {α : Type} {d : Kd α} {e e' b n c : Nat} {ok : Nat → Prop} {v u : Value} {A : Option Addr} {xs : List α}
/-- A row of other elements than gates stays. -/
theorem Fr.R (h : Fr tG G base w w1) (ho : d.R e w b ok v xs) (ht : ∀ q, q ∈ e :: d.E → q ≠ tG) (hG : ∀ k, ok k → k ≠ G) : d.R e w1 b ok v xs := by
 refine Kd.R_mono (Kd.R_move (Kd.R_bound ho) (fun k hk => ?_)) (fun _ hk => hk.1)
 obtain ⟨hok, _, hlt, q, hq, cells, hc⟩ := hk
 exact h.block k hlt (hG k hok) (fun _ c' h' => by
  rw [hc] at h'
  injection h' with h'
  injection h' with _ h'
  exact ht q hq h')
end
end
/-- A circuit that grows: its cells lie at G, its gates are the call's own. -/
def Bd (tC G base : Nat) (ins : Int) (ov : Value) (w : World) (g : List S93) : Prop :=
 ∃ gv, w.heap[G]? = some (.cells #[.int .i64 ins, gv, ov] tC (0, 0)) ∧ Kd.R k93 93 w base (fun _ => True) gv g
section
variable {tC t G base : Nat} {ins : Int} {ov : Value} {w w1 W : World} {g : List S93}
theorem Bd.below (h : Bd tC G base ins ov w g) (hb : Below w.heap.size w w1) : Bd tC G base ins ov w1 g := by
 obtain ⟨gv, hG, hR⟩ := h
 exact ⟨gv, (hb.block _ (blk_lt hG)).trans hG, Kd.R_below hR hb⟩
theorem Bd.alloc (h : Bd tC G base ins ov w g) (o : Obj) : Bd tC G base ins ov (w.alloc o) g := h.below (below_alloc (Below.refl _ _) o)
theorem Bd.drewN (h : Bd tC G base ins ov w g) (n : Nat) : Bd tC G base ins ov (w.drewN n) g := h.below (pw_below_drewN (Below.refl _ _) n)
theorem Bd.drew (h : Bd tC G base ins ov w g) : Bd tC G base ins ov w.drew g := h.below (below_drew (Below.refl _ _))
theorem Bd.gates_other (h : Kd.R k93 93 w base (fun _ => True) ov g) (hm : ∀ k c, k < w.heap.size → w.heap[k]? = some (.cells c 93 (0, 0)) → w1.heap[k]? = w.heap[k]?) : Kd.R k93 93 w1 base (fun _ => True) ov g := by
 refine Kd.R_mono (Kd.R_move (Kd.R_bound h) (fun k hk => ?_)) (fun _ _ => trivial)
 obtain ⟨_, _, hlt, q, hq, cells, hc⟩ := hk
 have hq' : q = 93 := by
  rcases List.mem_cons.mp hq with rfl | hq
  ·rfl
  ·exact absurd hq (by simp [k93, Kd.iso, Kd.pair, Kd.int, Kd.scalar])
 subst hq'
 exact hm k cells hlt hc
/-- Behind an append to a row of other elements. -/
theorem Bd.grown (h : Bd tC G base ins ov W g) {row : Option Nat} (hg : W.grownBy w1 row) (hr : ∀ k, row = some k → ∃ c, W.heap[k]? = some (.cells c t (0, 0))) (hC : t ≠ tC) (ht : t ≠ 93) : Bd tC G base ins ov w1 g := by
 obtain ⟨gv, hG, hR⟩ := h
 refine ⟨gv, (hg.block _ (blk_lt hG) (fun he => ?_)).trans hG, Bd.gates_other hR (fun k c hk hc => hg.block k hk (fun he => ?_))⟩
 ·obtain ⟨c, hc⟩ := hr _ he.symm
  rw [hG] at hc
  injection hc with hc
  injection hc with _ hc
  exact hC hc.symm
 ·obtain ⟨c', hc'⟩ := hr _ he.symm
  rw [hc] at hc'
  injection hc' with hc'
  injection hc' with _ hc'
  exact ht hc'.symm
/-- Behind a store into a row of other elements. -/
theorem Bd.set (h : Bd tC G base ins ov W g) {a j : Nat} {c : Array Value} (ha : W.heap[a]? = some (.cells c t (0, 0))) (u : Value) (hC : t ≠ tC) (ht : t ≠ 93) : Bd tC G base ins ov (W.setCell ⟨a, j, none⟩ u) g := by
 obtain ⟨gv, hG, hR⟩ := h
 have hne : ∀ k c' t', W.heap[k]? = some (.cells c' t' (0, 0)) → t ≠ t' → k ≠ a := by
  rintro k c' t' hk hn rfl
  rw [ha] at hk
  injection hk with hk
  injection hk with _ hk
  exact hn hk
 exact ⟨gv, (Below.heap_setCell W ⟨a, j, none⟩ u G (hne _ _ _ hG hC)).trans hG, Bd.gates_other hR (fun k c' _ hc => Below.heap_setCell W ⟨a, j, none⟩ u k (hne _ _ _ hc ht))⟩
end



















-- HAND
/-! ### bd_gatesw.lean -/
theorem own_ne_new {k N n c : Nat} (h : k < N) : some k ≠ (Value.slice (some ⟨N, 0, none⟩) n c).ownBlock := fun e => by
 have : k = N := by simpa [Value.ownBlock] using e
 omega










/-! ### impl_isLaid: function 38 -/
def impl_isLaid.f (a0 : Int) : Option (Bool) := if a0 ≥ 1 then (some (decide (a0 ≤ 4))) else (some false)
set_option maxHeartbeats 8000000 in
set_option maxRecDepth 100000 in
theorem impl_isLaid.calls (a0 : Int) (r : Bool) (w : World) (h : impl_isLaid.f a0 = some r) :
  Calls Try.prog 38 #[.int .i64 a0] w fun e w' => e = .returned (.bool r) ∧ Drawn0 w w' := by
 have H : (if a0 ≥ 1 then (some (decide (a0 ≤ 4))) else (some false)) = some r := h
 clear h
 by_cases c2 : a0 ≥ 1
 ·rw [if_pos c2] at H
  have c2b0 : decide (1 ≤ a0) = true := decide_eq_true c2
  clear c2
  obtain rfl := Option.some.inj H
  go_enter Try.func38, Try.ntmps38
  go_wp2
  go_ret
  exact ⟨by first | rfl | (simp; done) | (simp [*]; done), by repeat (first | exact Drawn0.refl _ | apply Drawn0.step)⟩
 ·rw [if_neg c2] at H
  have c2b0 : decide (1 ≤ a0) = false := decide_eq_false c2
  clear c2
  obtain rfl := Option.some.inj H
  go_enter Try.func38, Try.ntmps38
  go_wp2
  go_ret
  exact ⟨by first | rfl | (simp; done) | (simp [*]; done), by repeat (first | exact Drawn0.refl _ | apply Drawn0.step)⟩

/-! ### impl_isVars: function 58 -/
def impl_isVars.f (a0 : Int) : Option (Bool) := if a0 ≥ 1 then (some (decide (a0 ≤ 4))) else (some false)
set_option maxHeartbeats 8000000 in
set_option maxRecDepth 100000 in
theorem impl_isVars.calls (a0 : Int) (r : Bool) (w : World) (h : impl_isVars.f a0 = some r) :
  Calls Try.prog 58 #[.int .i64 a0] w fun e w' => e = .returned (.bool r) ∧ Drawn0 w w' := by
 have H : (if a0 ≥ 1 then (some (decide (a0 ≤ 4))) else (some false)) = some r := h
 clear h
 by_cases c2 : a0 ≥ 1
 ·rw [if_pos c2] at H
  have c2b0 : decide (1 ≤ a0) = true := decide_eq_true c2
  clear c2
  obtain rfl := Option.some.inj H
  go_enter Try.func58, Try.ntmps58
  go_wp2
  go_ret
  exact ⟨by first | rfl | (simp; done) | (simp [*]; done), by repeat (first | exact Drawn0.refl _ | apply Drawn0.step)⟩
 ·rw [if_neg c2] at H
  have c2b0 : decide (1 ≤ a0) = false := decide_eq_false c2
  clear c2
  obtain rfl := Option.some.inj H
  go_enter Try.func58, Try.ntmps58
  go_wp2
  go_ret
  exact ⟨by first | rfl | (simp; done) | (simp [*]; done), by repeat (first | exact Drawn0.refl _ | apply Drawn0.step)⟩






















-- IMPORT Derived.Lib.SliceRun


























/-! ### spec_l2Bool: function 53 -/
def spec_l2Bool.f (a0 : Bool) : Option (Int) := if a0 = true then (some 1) else (some 0)
set_option maxHeartbeats 8000000 in
set_option maxRecDepth 100000 in
theorem spec_l2Bool.calls (a0 : Bool) (r : Int) (w : World) (h : spec_l2Bool.f a0 = some r) :
  Calls Try.prog 53 #[.bool a0] w fun e w' => e = .returned (.int .u64 r) ∧ Drawn0 w w' := by
 have H : (if a0 = true then (some 1) else (some 0)) = some r := h
 clear h
 by_cases c2 : a0 = true
 ·subst c2
  have H1 : (some 1) = some r := by rw [if_pos rfl] at H; exact H
  clear H
  have H := H1
  clear H1
  obtain rfl := Option.some.inj H
  go_enter Try.func53, Try.ntmps53
  go_wp2
  go_ret
  exact ⟨by first | rfl | (simp; done) | (simp [*]; done), by repeat (first | exact Drawn0.refl _ | apply Drawn0.step)⟩
 ·replace c2 := Bool.eq_false_iff.mpr c2
  subst c2
  have H1 : (some 0) = some r := by rw [if_neg (show ¬ (false = true) by decide)] at H; exact H
  clear H
  have H := H1
  clear H1
  obtain rfl := Option.some.inj H
  go_enter Try.func53, Try.ntmps53
  go_wp2
  go_ret
  exact ⟨by first | rfl | (simp; done) | (simp [*]; done), by repeat (first | exact Drawn0.refl _ | apply Drawn0.step)⟩






-- IMPORT Derived.Lib.SliceRun




/-! ### impl_truth: function 86 -/
def impl_truth.f (a0 : Bool) : Option (Int) := if a0 = true then (some 1) else (some 0)
set_option maxHeartbeats 8000000 in
set_option maxRecDepth 100000 in
theorem impl_truth.calls (a0 : Bool) (r : Int) (w : World) (h : impl_truth.f a0 = some r) :
  Calls Try.prog 86 #[.bool a0] w fun e w' => e = .returned (.int .u64 r) ∧ Drawn0 w w' := by
 have H : (if a0 = true then (some 1) else (some 0)) = some r := h
 clear h
 by_cases c2 : a0 = true
 ·subst c2
  have H1 : (some 1) = some r := by rw [if_pos rfl] at H; exact H
  clear H
  have H := H1
  clear H1
  obtain rfl := Option.some.inj H
  go_enter Try.func86, Try.ntmps86
  go_wp2
  go_ret
  exact ⟨by first | rfl | (simp; done) | (simp [*]; done), by repeat (first | exact Drawn0.refl _ | apply Drawn0.step)⟩
 ·replace c2 := Bool.eq_false_iff.mpr c2
  subst c2
  have H1 : (some 0) = some r := by rw [if_neg (show ¬ (false = true) by decide)] at H; exact H
  clear H
  have H := H1
  clear H1
  obtain rfl := Option.some.inj H
  go_enter Try.func86, Try.ntmps86
  go_wp2
  go_ret
  exact ⟨by first | rfl | (simp; done) | (simp [*]; done), by repeat (first | exact Drawn0.refl _ | apply Drawn0.step)⟩

/-! ### impl_wordOf: function 55 -/
def impl_wordOf.l0 : Nat → Int → List Bool → Int → Int → Option (Int)
 | 0, _, _, _, _ => none
 | k + 1, x3, x6, x7, x8 => if x8 < x7 then (if 0 ≤ x8 then (if x8 < (x6.length : Int) then ((impl_truth.f (rdOf false x6 x8)).bind fun t518 => (impl_wordOf.l0 k (Go.bits .or .u64 x3 (shl .u64 t518 x8)) x6 x7 (wrap64 (x8 + 1)))) else (none)) else (none)) else (some x3)
def impl_wordOf.f (k : Nat) (l0 : List Bool) : Option (Int) := impl_wordOf.l0 k 0 l0 (l0.length : Int) 0
theorem impl_wordOf.mono_l : ∀ k, (∀ y0 y1 y2 y3, LeO (impl_wordOf.l0 k y0 y1 y2 y3) (impl_wordOf.l0 (k + 1) y0 y1 y2 y3))
 | 0 => fun _ _ _ _ r h => by simp [impl_wordOf.l0] at h
 | k + 1 => by
  have ih0 := impl_wordOf.mono_l k
  ·intro y0 y1 y2 y3
   unfold impl_wordOf.l0
   repeat' first
   | (with_reducible exact ih0 _ _ _ _)
   | (with_reducible first | exact LeO.refl _ | exact LeO.none _ | refine LeO.ite ?_ ?_ | refine LeO.bind ?_ (fun _ => ?_))
   | exact ih0 _ _ _ _
   | exact LeO.none _ | refine LeO.ite ?_ ?_ | refine LeO.bind ?_ (fun _ => ?_)
theorem impl_wordOf.mono : ∀ a0 k, LeO (impl_wordOf.f k a0) (impl_wordOf.f (k + 1) a0) := by
 intro a0 k
 have ih0 := impl_wordOf.mono_l k
 unfold impl_wordOf.f
 repeat' first
   | (with_reducible exact ih0 _ _ _ _)
   | (with_reducible first | exact LeO.refl _ | exact LeO.none _ | refine LeO.ite ?_ ?_ | refine LeO.bind ?_ (fun _ => ?_))
   | exact ih0 _ _ _ _
   | exact LeO.none _ | refine LeO.ite ?_ ?_ | refine LeO.bind ?_ (fun _ => ?_)
set_option maxHeartbeats 8000000 in
set_option maxRecDepth 100000 in
theorem impl_wordOf.calls (k : Nat) (A0 : Option Addr) (c0 : Nat) (l0 : List Bool) (r : Int) (w : World) (hr0 : Kd.C Kd.bool w A0 l0.length l0) (hc0 : l0.length ≤ c0) (h : impl_wordOf.f k l0 = some r) :
  Calls Try.prog 55 #[.slice A0 l0.length c0] w fun e w' => e = .returned (.int .u64 r) ∧ Drawn0 w w' := by
 have HR0 := Aside0.mk hr0
 have HC0 := Aside0.mk hc0
 clear hr0 hc0
 have H : (impl_wordOf.l0 k 0 l0 (l0.length : Int) 0) = some r := h
 clear h
 have H' := Aside0.mk H
 clear H
 go_enter Try.func55, Try.ntmps55
 go_wp2
 go_loopg [3, 8] k (fun kq v3 v8 w' => ∃ (x3_1 : Int) (x8_1 : Int), v3 = .int .u64 x3_1 ∧ v8 = .int .i64 x8_1 ∧ Aside0 (impl_wordOf.l0 kq x3_1 l0 (l0.length : Int) x8_1 = some r) ∧ Aside0 (kq ≤ k) ∧ Drawn0 w w')
 case atStart => exact ⟨(0), (0), qS, qS, H', ⟨Nat.le_refl _⟩, by repeat (first | exact Drawn0.refl _ | apply Drawn0.step)⟩
 case round =>
  clear H'
  obtain ⟨x3_1, x8_1, rfl, rfl, HA, HK1, ⟨m1, rfl⟩⟩ := hrel
  cases gk with
  | zero => exact absurd HA.out (by simp [impl_wordOf.l0])
  | succ k1 =>
   have H := HA.out
   clear HA
   simp only [impl_wordOf.l0] at H
   by_cases c2 : x8_1 < (l0.length : Int)
   ·rw [if_pos c2] at H
    have c2b0 : decide (x8_1 < (l0.length : Int)) = true := decide_eq_true c2
    clear c2
    by_cases c3 : 0 ≤ x8_1
    ·rw [if_pos c3] at H
     have c3b0 : decide (0 ≤ x8_1) = true := decide_eq_true c3
     clear c3
     by_cases c4 : x8_1 < (l0.length : Int)
     ·rw [if_pos c4] at H
      have c4b0 : decide (x8_1 < (l0.length : Int)) = true := decide_eq_true c4
      clear c4
      replace H := Option.bind_eq_some_iff.mp H
      obtain ⟨t518, A50, H⟩ := H
      replace H : (impl_wordOf.l0 k1 (Go.bits .or .u64 x3_1 (shl .u64 t518 x8_1)) l0 (l0.length : Int) (wrap64 (x8_1 + 1))) = some r := H
      have A5 := Aside0.mk A50
      clear A50
      have c6b0 := eq_true (qD : 0 ≤ x8_1)
      obtain ⟨ji7, hji7⟩ : ∃ j_ : Int, (shl .u64 t518 x8_1) = j_ := ⟨_, rfl⟩
      replace H : (impl_wordOf.l0 k1 (Go.bits .or .u64 x3_1 (ji7)) l0 (l0.length : Int) (wrap64 (x8_1 + 1))) = some r := by first | (rw [hji7] at H; exact H) | (simp only [hji7] at H ⊢; exact H)
      (try rw [hji7] at A5)
      have hji7_ : (IntKind.u64.wrap (t518 * 2 ^ min x8_1.toNat 64)) = ji7 := hji7
      have hji7z : x8_1 ≤ 64 → (IntKind.u64.wrap (t518 * 2 ^ x8_1.toNat)) = ji7 := shl_small hji7
      have H' := Aside0.mk H
      clear H
      have p517 : 0 ≤ (x8_1 : Int) := qD
      have q517 : x8_1 < (l0.length : Int) := qD
      obtain ⟨ad517, e517, hx517_0⟩ := Kd.at_bool HR0.out x8_1 p517 q517
      cases e517
      replace p517 := eq_true p517
      replace q517 := eq_true q517
      go_wp2_with (first | ((with_reducible refine gate_callee (f := 86) rfl ?_); refine goesL_ (some 15) rfl rfl Try.func86 (by kernel_rfl) rfl #[.bool (rdOf false l0 x8_1)] rfl qG ?_; (with_reducible refine (impl_truth.calls (rdOf false l0 x8_1) t518 _ A5.out).mono ?_); rintro e w' ⟨rfl, ⟨nd, rfl⟩⟩; refine ⟨_, rfl, ?_⟩))
      go_roundg k1
      case measure => have := HK1.out; omega
      case rel => exact ⟨(Go.bits .or .u64 x3_1 (ji7)), (wrap64 (x8_1 + 1)), (by first | rfl | (simp; done) | (simp only [← hji7] <;> (first | rfl | simp)) | (simp [*]; done)), qS, H', ⟨by have := HK1.out; omega⟩, by repeat (first | exact Drawn0.refl _ | apply Drawn0.step)⟩
     ·rw [if_neg c4] at H
      exact absurd H (by simp)
    ·rw [if_neg c3] at H
     exact absurd H (by simp)
   ·rw [if_neg c2] at H
    have c2b0 : decide (x8_1 < (l0.length : Int)) = false := decide_eq_false c2
    clear c2
    obtain rfl := Option.some.inj H
    go_wp2
    go_ret
    exact ⟨by first | rfl | (simp; done) | (simp [*]; done), by repeat (first | exact Drawn0.refl _ | apply Drawn0.step)⟩

end Go.Proofs.Ytckgeanmljmhfaa.X
