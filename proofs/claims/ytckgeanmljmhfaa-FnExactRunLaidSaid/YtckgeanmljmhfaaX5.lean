/- Go functions as Lean functions, each with the proof that its call comes to just its answer. Conditions: the arguments are of their kinds. -/
import Derived.Test.YtckgeanmljmhfaaX0
import Derived.StillTailTactics
namespace Go.Proofs.Ytckgeanmljmhfaa.X
open Go.RowKit Go.Proofs.YtckgeanmljmhfaaW.PrintWords Go.Proofs.YtckgeanmljmhfaaW.PrintLast Go.Proofs.YtckgeanmljmhfaaW.PrintMore
attribute [local go_sem] max2_int min2_int max_two min_two max_three min_three max_four min_four   -- for this text's walks alone
set_option linter.unusedVariables false
set_option linter.unusedSimpArgs false

-- HAND
/-! ### bd_shared.lean -/
-- IMPORT Derived.StillTailTactics
/-- What the calls of a circuit that grows leave: all but the circuit's own cells (G) and rows of gates that lie at base or behind it. -/
structure Fr (tG G base : Nat) (w w' : World) : Prop where
 os : w'.os = w.os
 tape : w'.tape = w.tape
 output : w'.output = w.output
 size : w.heap.size ≤ w'.heap.size
 block : ∀ k, k < w.heap.size → k ≠ G → (base ≤ k → ∀ c, w.heap[k]? ≠ some (.cells c tG (0, 0))) → w'.heap[k]? = w.heap[k]?
section
variable {tC tG tI G base B : Nat} {w w1 w2 w' W : World}
theorem Fr.refl (tG G base : Nat) (w : World) : Fr tG G base w w := ⟨rfl, rfl, rfl, Nat.le_refl _, fun _ _ _ _ => rfl⟩
theorem Fr.trans (h : Fr tG G base w w1) (h2 : Fr tG G base w1 w2) : Fr tG G base w w2 :=
 ⟨h2.os.trans h.os, h2.tape.trans h.tape, h2.output.trans h.output, Nat.le_trans h.size h2.size, fun k hk hG ht => by
  have e := h.block k hk hG ht
  exact (h2.block k (Nat.lt_of_lt_of_le hk h.size) hG (fun hb c => by rw [e]; exact ht hb c)).trans e⟩
theorem Fr.of_below (h : Below w.heap.size w w1) : Fr tG G base w w1 := ⟨h.os, h.tape, h.output, h.size, fun k hk _ _ => h.block k hk⟩
theorem Fr.step_below (h : Fr tG G base w w1) (h2 : Below w1.heap.size w1 w2) : Fr tG G base w w2 := h.trans (Fr.of_below h2)
theorem Fr.alloc (h : Fr tG G base w w1) (o : Obj) : Fr tG G base w (w1.alloc o) := h.step_below (below_alloc (Below.refl _ _) o)
theorem Fr.drewN (h : Fr tG G base w w1) (n : Nat) : Fr tG G base w (w1.drewN n) := h.step_below (pw_below_drewN (Below.refl _ _) n)
theorem Fr.drew (h : Fr tG G base w w1) : Fr tG G base w w1.drew := h.step_below (below_drew (Below.refl _ _))
theorem Fr.below (h : Fr tG G base w w1) (hG : B ≤ G) (hb : B ≤ base) (hB : B ≤ w.heap.size) : Below B w w1 :=
 ⟨h.os, h.tape, h.output, h.size, fun k hk => h.block k (by omega) (by omega) (fun h2 => absurd h2 (by omega))⟩
/-- An append to a row of gates of one's own. -/
theorem Fr.grown_own {row : Option Nat} (hg : W.grownBy w1 row) (hr : ∀ k, row = some k → base ≤ k ∧ ∃ c, W.heap[k]? = some (.cells c tG (0, 0))) : Fr tG G base W w1 :=
 ⟨hg.os, hg.tape, hg.output, hg.size, fun k hk _ ht => hg.block k hk (fun he => by
  obtain ⟨hb, c, hc⟩ := hr k he.symm
  exact ht hb c hc)⟩
/-- An append to a row that is new since. -/
theorem Fr.grown_new {row : Option Nat} (h : Fr tG G base w W) (hg : W.grownBy w1 row) (hr : ∀ k, row = some k → w.heap.size ≤ k) : Fr tG G base w w1 :=
 ⟨hg.os.trans h.os, hg.tape.trans h.tape, hg.output.trans h.output, Nat.le_trans h.size hg.size, fun k hk hG ht =>
  (hg.block k (Nat.lt_of_lt_of_le hk h.size) (fun he => by have := hr k he.symm; omega)).trans (h.block k hk hG ht)⟩
theorem Fr.setG (h : Fr tG G base w W) (j : Nat) (v : Value) : Fr tG G base w (W.setCell ⟨G, j, none⟩ v) :=
 h.trans ⟨rfl, rfl, rfl, by simp [World.setCell], fun k _ hG _ => Below.heap_setCell W ⟨G, j, none⟩ v k hG⟩
theorem Fr.blk (h : Fr tG G base w w1) {k : Nat} {c : Array Value} {t : Nat} (hk : w.heap[k]? = some (.cells c t (0, 0))) (hG : k ≠ G) (ht : t ≠ tG) : w1.heap[k]? = some (.cells c t (0, 0)) :=
 (h.block k (blk_lt hk) hG (fun _ c' h' => by
  rw [hk] at h'
  injection h' with h'
  injection h' with _ h'
  exact ht h')).trans hk
section
variable {α : Type} {d : Kd α} {e e' b n c : Nat} {ok : Nat → Prop} {v u : Value} {A : Option Addr} {xs : List α}
/-- A row of other elements than gates stays. -/
theorem Fr.R (h : Fr tG G base w w1) (ho : d.R e w b ok v xs) (ht : ∀ q, q ∈ e :: d.E → q ≠ tG) (hG : ∀ k, ok k → k ≠ G) : d.R e w1 b ok v xs := by
 refine Kd.R_mono (Kd.R_move (Kd.R_bound ho) (fun k hk => ?_)) (fun _ hk => hk.1)
 obtain ⟨hok, _, hlt, q, hq, cells, hc⟩ := hk
 exact h.block k hlt (hG k hok) (fun _ c' h' => by
  rw [hc] at h'
  injection h' with h'
  injection h' with _ h'
  exact ht q hq h')
/-- A row of one's own is read on. -/
theorem Fr.C_own (ho : d.R e w b ok (.slice A n c) xs) (ht : ∀ q, q ∈ e :: d.E → q ≠ tG) (hG : ∀ k, ok k → k ≠ G) : ∀ W', Fr tG G base w W' → d.C W' A xs.length xs := fun W' hk =>
 (Kd.R_reads' (hk.R ho ht hG)).2.2
theorem Fr.C_step (h : ∀ W', Fr tG G base w W' → d.C W' A n xs) (hk : Fr tG G base w w1) : ∀ W', Fr tG G base w1 W' → d.C W' A n xs := fun W' hk' => h W' (hk.trans hk')
end
end
/-- A circuit that grows: its cells lie at G, its gates are the call's own. -/
def Bd (tC G base : Nat) (ins : Int) (ov : Value) (w : World) (g : List S93) : Prop :=
 ∃ gv, w.heap[G]? = some (.cells #[.int .i64 ins, gv, ov] tC (0, 0)) ∧ Kd.R k93 93 w base (fun _ => True) gv g
section
variable {tC t G base : Nat} {ins : Int} {ov : Value} {w w1 W : World} {g : List S93}
theorem Bd.below (h : Bd tC G base ins ov w g) (hb : Below w.heap.size w w1) : Bd tC G base ins ov w1 g := by
 obtain ⟨gv, hG, hR⟩ := h
 exact ⟨gv, (hb.block _ (blk_lt hG)).trans hG, Kd.R_below hR hb⟩
theorem Bd.alloc (h : Bd tC G base ins ov w g) (o : Obj) : Bd tC G base ins ov (w.alloc o) g := h.below (below_alloc (Below.refl _ _) o)
theorem Bd.drewN (h : Bd tC G base ins ov w g) (n : Nat) : Bd tC G base ins ov (w.drewN n) g := h.below (pw_below_drewN (Below.refl _ _) n)
theorem Bd.drew (h : Bd tC G base ins ov w g) : Bd tC G base ins ov w.drew g := h.below (below_drew (Below.refl _ _))
theorem Bd.gates_other (h : Kd.R k93 93 w base (fun _ => True) ov g) (hm : ∀ k c, k < w.heap.size → w.heap[k]? = some (.cells c 93 (0, 0)) → w1.heap[k]? = w.heap[k]?) : Kd.R k93 93 w1 base (fun _ => True) ov g := by
 refine Kd.R_mono (Kd.R_move (Kd.R_bound h) (fun k hk => ?_)) (fun _ _ => trivial)
 obtain ⟨_, _, hlt, q, hq, cells, hc⟩ := hk
 have hq' : q = 93 := by
  rcases List.mem_cons.mp hq with rfl | hq
  ·rfl
  ·exact absurd hq (by simp [k93, Kd.iso, Kd.pair, Kd.int, Kd.scalar])
 subst hq'
 exact hm k cells hlt hc
/-- Behind an append to a row of other elements. -/
theorem Bd.grown (h : Bd tC G base ins ov W g) {row : Option Nat} (hg : W.grownBy w1 row) (hr : ∀ k, row = some k → ∃ c, W.heap[k]? = some (.cells c t (0, 0))) (hC : t ≠ tC) (ht : t ≠ 93) : Bd tC G base ins ov w1 g := by
 obtain ⟨gv, hG, hR⟩ := h
 refine ⟨gv, (hg.block _ (blk_lt hG) (fun he => ?_)).trans hG, Bd.gates_other hR (fun k c hk hc => hg.block k hk (fun he => ?_))⟩
 ·obtain ⟨c, hc⟩ := hr _ he.symm
  rw [hG] at hc
  injection hc with hc
  injection hc with _ hc
  exact hC hc.symm
 ·obtain ⟨c', hc'⟩ := hr _ he.symm
  rw [hc] at hc'
  injection hc' with hc'
  injection hc' with _ hc'
  exact ht hc'.symm
/-- Behind a store into a row of other elements. -/
theorem Bd.set (h : Bd tC G base ins ov W g) {a j : Nat} {c : Array Value} (ha : W.heap[a]? = some (.cells c t (0, 0))) (u : Value) (hC : t ≠ tC) (ht : t ≠ 93) : Bd tC G base ins ov (W.setCell ⟨a, j, none⟩ u) g := by
 obtain ⟨gv, hG, hR⟩ := h
 have hne : ∀ k c' t', W.heap[k]? = some (.cells c' t' (0, 0)) → t ≠ t' → k ≠ a := by
  rintro k c' t' hk hn rfl
  rw [ha] at hk
  injection hk with hk
  injection hk with _ hk
  exact hn hk
 exact ⟨gv, (Below.heap_setCell W ⟨a, j, none⟩ u G (hne _ _ _ hG hC)).trans hG, Bd.gates_other hR (fun k c' _ hc => Below.heap_setCell W ⟨a, j, none⟩ u k (hne _ _ _ hc ht))⟩
end
theorem info_gate : (Try.prog.info? 93).map (fun i => (i.zero, i.size, i.bytes)) = some (some (.agg #[(.int .i64 0), (.int .i64 0), (.int .i64 0)]), 3, 24) := by kernel_rfl
theorem R_fresh (W : World) (e : Nat) (ok : Nat → Prop) (hk : ok W.heap.size) : Kd.R (Kd.int .i64) e (W.alloc (.cells #[] e)) W.heap.size ok (.slice (some ⟨W.heap.size, 0, none⟩) 0 0) [] :=
 ⟨fun k h => by
  have h2 : W.heap.size = k := by simpa [Value.ownBlock] using h
  rw [← h2]; exact hk, [], own_lit W W.heap.size e .i64 [] (Nat.le_refl _) (by simp), Reps.none _ _⟩
theorem own_ge {α : Type} {d : Kd α} {e b : Nat} {ok : Nat → Prop} {w : World} {v : Value} {xs : List α} (h : d.R e w b ok v xs) : ∀ k, v.ownBlock = some k → b ≤ k := Kd.R_base h
theorem info_int : (Try.prog.info? 3).map (fun i => (i.zero, i.size, i.bytes)) = some (some (.int .i64 0), 1, 8) := by kernel_rfl
theorem Fr.cellAt {tG G base n kk : Nat} {w W : World} {ad : Addr} {a : List Int} {x : Int} (hf : Fr tG G base w W) (h : ∀ W', Fr tG G base w W' → Kd.C (Kd.int .i64) W' (some ad) n a) (hk : kk < n) (hx : rd a kk = x) : W.cell? (ad.add kk) = some (.int .i64 x) := by
 obtain ⟨ad', e, hc⟩ := Kd.at_int (h W hf) (kk : Int) (by omega) (by omega)
 cases e
 rwa [hx, Int.toNat_natCast] at hc
theorem bd_cell_new {w : World} {p : Addr} {v : Value} (h : w.cell? p = some v) (o : Obj) : (w.alloc o).cell? p = some v :=
 ((Below.refl w.heap.size w).alloc (Nat.le_refl _) o).cell (World.block_lt_of_cell? w _ h) |>.trans h
theorem Fr.cellAtI {tG G base n : Nat} {w W : World} {ad : Addr} {a : List Int} {x i : Int} (hf : Fr tG G base w W) (h : ∀ W', Fr tG G base w W' → Kd.C (Kd.int .i64) W' (some ad) n a) (h0 : 0 ≤ i) (hk : i < n) (hx : rd a i = x) : W.cell? (ad.add i.toNat) = some (.int .i64 x) := by
 obtain ⟨ad', e, hc⟩ := Kd.at_int (h W hf) i h0 hk
 cases e
 rwa [hx] at hc
/-- A row that lies ahead of a row that grows. -/
theorem R_old_grown {α : Type} {d : Kd α} {e b N : Nat} {ok : Nat → Prop} {W w1 : World} {v : Value} {xs : List α} {row : Option Nat} (h : d.R e W b (fun k => ok k ∧ k < N) v xs) (hg : W.grownBy w1 row) (hr : ∀ k, row = some k → N ≤ k) : d.R e w1 b (fun k => ok k ∧ k < N) v xs :=
 Kd.R_grown h hg (fun k hk he => by have := hr k he.symm; omega)
theorem R_till {α : Type} {d : Kd α} {e b : Nat} {ok : Nat → Prop} {W : World} {v : Value} {xs : List α} (h : d.R e W b ok v xs) : d.R e W b (fun k => ok k ∧ k < W.heap.size) v xs := Kd.R_mono (Kd.R_bound h) (fun _ hk => ⟨hk.1, hk.2.2.1⟩)
theorem R_setI {W : World} {g n cap e b : Nat} {ok : Nat → Prop} {xs : List Int} (h : Kd.R (Kd.int .i64) e W b ok (.slice (some ⟨g, 0, none⟩) n cap) xs) (i : Nat) (hi : i < n) (x : Int) :
  Kd.R (Kd.int .i64) e (W.setCell ⟨g, i, none⟩ (.int .i64 x)) b ok (.slice (some ⟨g, 0, none⟩) n cap) (xs.set i x) ∧ W.grownBy (W.setCell ⟨g, i, none⟩ (.int .i64 x)) (some g) := by
 obtain ⟨c, hcl, hM, hcc, _⟩ := Kd.R_elem h 0 (i : Int) (by omega) (by omega)
 have h2 := Kd.R_seg h (i : Int) (by omega) (by omega) (c := c) (seg := [.int .i64 x]) (j := 0) hcl (fun j u hu => hcc j u hu) (by simp [Kd.int, Kd.scalar]) (x' := x) (okp := fun _ => False) (by
  have hc1 : c.length = 1 := hcl
  match c, hc1 with
  | [c0], _ => simp [Kd.int, Kd.scalar]) (fun _ hk => hk.elim)
 have e1 : (i : Int).toNat * (Kd.int .i64).sz + 0 = i := by simp [Kd.int, Kd.scalar]
 rw [e1, Int.toNat_natCast] at h2
 exact h2
/-- The place of an element of one's own row: it can be read and written. -/
theorem R_placeI {W : World} {g n cap e b : Nat} {ok : Nat → Prop} {xs : List Int} (h : Kd.R (Kd.int .i64) e W b ok (.slice (some ⟨g, 0, none⟩) n cap) xs) (i : Nat) (hi : i < n) : (∃ u, W.cell? ⟨g, i, none⟩ = some (.int .i64 u)) ∧ W.frozen? ⟨g, i, none⟩ = false := by
 obtain ⟨c, hcl, hM, hcc, hfr⟩ := Kd.R_elem h 0 (i : Int) (by omega) (by omega)
 have e1 : (i : Int).toNat * (Kd.int .i64).sz + 0 = i := by simp [Kd.int, Kd.scalar]
 obtain ⟨ad, e, hc⟩ := Kd.at_int (Kd.R_reads' h).2.2 (i : Int) (by omega) (by have := (Kd.R_reads' h).1; omega)
 cases e
 have hf := hfr 0
 rw [e1] at hf
 rw [Int.toNat_natCast, add_plain] at hc
 exact ⟨⟨_, hc⟩, hf⟩
theorem R_new_grown {α : Type} {d : Kd α} {e N : Nat} {ok : Nat → Prop} {W w1 : World} {v : Value} {xs : List α} {row : Option Nat} (h : d.R e W N ok v xs) (hg : W.grownBy w1 row) (hr : ∀ k, row = some k → k < N) : d.R e w1 N ok v xs :=
 Kd.R_mono (Kd.R_grown (Kd.R_bound h) hg (fun k hk he => by have := hr k he.symm; have := hk.2.1; omega)) (fun _ hk => hk.1)
theorem R_one (W : World) (e : Nat) (ok : Nat → Prop) (x : Int) (hk : ok W.heap.size) : Kd.R (Kd.int .i64) e (W.alloc (.cells #[.int .i64 x] e)) W.heap.size ok (.slice (some ⟨W.heap.size, 0, none⟩) 1 1) [x] :=
 ⟨fun k h => by
  have h2 : W.heap.size = k := by simpa [Value.ownBlock] using h
  rw [← h2]; exact hk, [.int .i64 x], own_lit W W.heap.size e .i64 [x] (Nat.le_refl _) (by simp), Reps.one (by simp [Kd.int, Kd.scalar]) (Reps.none _ _)⟩
/-- Gates put one behind the other, and their wires. -/
def emitN (ins : Int) (f : Nat → S93) (g : List S93) : Nat → List S93 × List Int
 | 0 => (g, [])
 | n + 1 => ((emitN ins f g n).1 ++ [f n], (emitN ins f g n).2 ++ [ins + ((emitN ins f g n).1.length : Int)])
theorem emitN_len (ins : Int) (f : Nat → S93) (g : List S93) : ∀ n, (emitN ins f g n).1.length = g.length + n ∧ (emitN ins f g n).2.length = n
 | 0 => ⟨rfl, rfl⟩
 | n + 1 => by
  have h := emitN_len ins f g n
  simp only [emitN, List.length_append, List.length_singleton]
  omega
/-- An adder. -/
def addN (ins : Int) (a b : List Int) (c : Int) (g : List S93) : Nat → List S93 × List Int × Int
 | 0 => (g, [], c)
 | n + 1 =>
  let s := addN ins a b c g n
  let d := ins + (s.1.length : Int)
  (s.1 ++ [⟨5, rd a n, rd b n⟩] ++ [⟨5, d, s.2.2⟩] ++ [⟨3, rd a n, rd b n⟩] ++ [⟨3, d, s.2.2⟩] ++ [⟨4, d + 2, d + 3⟩], s.2.1 ++ [d + 1], d + 4)
theorem addN_len (ins : Int) (a b : List Int) (c : Int) (g : List S93) : ∀ n, (addN ins a b c g n).1.length = g.length + 5 * n ∧ (addN ins a b c g n).2.1.length = n
 | 0 => ⟨rfl, rfl⟩
 | n + 1 => by
  have h := addN_len ins a b c g n
  simp only [addN, List.length_append, List.length_singleton]
  omega
/-- A comparison. -/
def lessN (ins : Int) (a b : List Int) (g : List S93) : Nat → List S93 × Int
 | 0 => (g ++ [⟨1, 0, 0⟩], ins + (g.length : Int))
 | n + 1 =>
  let s := lessN ins a b g n
  let d := ins + (s.1.length : Int)
  (s.1 ++ [⟨5, rd a n, rd b n⟩] ++ [⟨2, d, 0⟩] ++ [⟨3, d + 1, s.2⟩] ++ [⟨2, rd a n, 0⟩] ++ [⟨3, d + 3, rd b n⟩] ++ [⟨4, d + 2, d + 4⟩], d + 5)
theorem lessN_len (ins : Int) (a b : List Int) (g : List S93) : ∀ n, (lessN ins a b g n).1.length = g.length + 1 + 6 * n
 | 0 => by simp [lessN]
 | n + 1 => by
  have h := lessN_len ins a b g n
  simp only [lessN, List.length_append, List.length_singleton]
  omega
/-- A comparison for equality. -/
def eqN (ins : Int) (a b : List Int) (g : List S93) : Nat → List S93 × Int
 | 0 => (g ++ [⟨1, 1, 0⟩], ins + (g.length : Int))
 | n + 1 =>
  let s := eqN ins a b g n
  let d := ins + (s.1.length : Int)
  (s.1 ++ [⟨5, rd a n, rd b n⟩] ++ [⟨2, d, 0⟩] ++ [⟨3, d + 1, s.2⟩], d + 2)
theorem eqN_len (ins : Int) (a b : List Int) (g : List S93) : ∀ n, (eqN ins a b g n).1.length = g.length + 1 + 3 * n
 | 0 => by simp [eqN]
 | n + 1 => by
  have h := eqN_len ins a b g n
  simp only [eqN, List.length_append, List.length_singleton]
  omega
/-- A multiplier. -/
def mulF (a b : List Int) (k i : Nat) : S93 := if i < k then ⟨1, 0, 0⟩ else ⟨3, rd a ((i : Int) - k), rd b k⟩
def mulN (ins : Int) (a b : List Int) (g : List S93) : Nat → List S93 × List Int
 | 0 => emitN ins (fun _ => ⟨1, 0, 0⟩) g a.length
 | n + 1 =>
  let s := mulN ins a b g n
  let p := emitN ins (mulF a b n) s.1 a.length
  let q := addN ins s.2 p.2 (ins + (p.1.length : Int)) (p.1 ++ [⟨1, 0, 0⟩]) s.2.length
  (q.1, q.2.1)
theorem mulN_len (ins : Int) (a b : List Int) (g : List S93) : ∀ n, (mulN ins a b g n).1.length = g.length + a.length + n * (6 * a.length + 1) ∧ (mulN ins a b g n).2.length = a.length
 | 0 => by
  have h := emitN_len ins (fun _ => ⟨1, 0, 0⟩) g a.length
  simp only [mulN]
  omega
 | n + 1 => by
  have h := mulN_len ins a b g n
  simp only [mulN]
  have h1 := emitN_len ins (mulF a b n) (mulN ins a b g n).1 a.length
  have h2 := addN_len ins (mulN ins a b g n).2 (emitN ins (mulF a b n) (mulN ins a b g n).1 a.length).2 (ins + ((emitN ins (mulF a b n) (mulN ins a b g n).1 a.length).1.length : Int)) ((emitN ins (mulF a b n) (mulN ins a b g n).1 a.length).1 ++ [⟨1, 0, 0⟩]) (mulN ins a b g n).2.length
  rw [List.length_append, List.length_singleton] at h2
  have e : (n + 1) * (6 * a.length + 1) = n * (6 * a.length + 1) + (6 * a.length + 1) := Nat.succ_mul _ _
  exact ⟨by omega, by omega⟩
/-- A number's bit. -/
def bitv (n : Int) (i : Nat) : Int := wrap64 (Go.bits .and .u64 (n / 2 ^ min i 64) 1)
theorem bitv_zero (i : Nat) : bitv 0 i = 0 := by
 unfold bitv
 rw [Int.zero_ediv, show Go.bits .and .u64 0 1 = 0 from rfl]
 simp [wrap64]
/-- The gates of an operator with two operands, and the wires of its result. -/
def twoN (ins : Int) (op : Int) (a b : List Int) (g : List S93) : List S93 × List Int :=
 if op = 8 ∨ op = 17 then emitN ins (fun i => ⟨3, rd a i, rd b i⟩) g a.length
 else if op = 9 ∨ op = 18 then emitN ins (fun i => ⟨4, rd a i, rd b i⟩) g a.length
 else if op = 10 then emitN ins (fun i => ⟨5, rd a i, rd b i⟩) g a.length
 else if op = 3 then ((addN ins a b (ins + (g.length : Int)) (g ++ [⟨1, 0, 0⟩]) a.length).1, (addN ins a b (ins + (g.length : Int)) (g ++ [⟨1, 0, 0⟩]) a.length).2.1)
 else if op = 4 then
  let p := emitN ins (fun i => ⟨2, rd b i, 0⟩) g b.length
  ((addN ins a p.2 (ins + (p.1.length : Int)) (p.1 ++ [⟨1, 1, 0⟩]) a.length).1, (addN ins a p.2 (ins + (p.1.length : Int)) (p.1 ++ [⟨1, 1, 0⟩]) a.length).2.1)
 else if op = 5 then mulN ins a b g b.length
 else if op = 14 then ((eqN ins a b g a.length).1, [(eqN ins a b g a.length).2])
 else if op = 15 then ((lessN ins a b g a.length).1, [(lessN ins a b g a.length).2])
 else
  let m := a.length - 1
  let d := ins + (g.length : Int)
  let s := lessN ins (a.set m d) (b.set m (d + 1)) (g ++ [⟨2, rd a m, 0⟩] ++ [⟨2, rd b m, 0⟩]) a.length
  (s.1, [s.2])


-- HAND
/-! ### spec_l4Build_gate: function 92 -/
-- IMPORT Derived.StillTailTactics
set_option maxHeartbeats 8000000 in
set_option maxRecDepth 100000 in
/-- A gate that is put: its wire, and the circuit behind it. -/
theorem spec_l4Build_gate.calls (G base : Nat) (ins : Int) (ov : Value) (g g' : List S93) (a1 a2 a3 n : Int) (w : World) (hb : base ≤ w.heap.size) (HBD : Bd 85 G base ins ov w g)
  (hi0 : 0 ≤ ins) (hi1 : ins ≤ 1000000) (hl : g.length ≤ 1000000) (hn : n = ins + (g.length : Int)) (hg' : g' = g ++ [⟨a1, a2, a3⟩]) :
  Calls Try.prog 92 #[.pointer (some ⟨G, 0, none⟩), .int .i64 a1, .int .i64 a2, .int .i64 a3] w fun e w' => e = .returned (.int .i64 n) ∧ Bd 85 G base ins ov w' g' ∧ Fr 93 G base w w' := by
 obtain ⟨gv, hG, hR⟩ := HBD
 have hGlt := blk_lt hG
 obtain ⟨A0, c0, rfl⟩ := Kd.R_slice hR
 have hne := Kd.R_ne hR hG (by decide)
 have hty := Kd.R_typed hR
 have hbs := Kd.R_base hR
 have hlt := Kd.R_lt hR
 have hc0 : w.cell? ⟨G, 0, none⟩ = some (.int .i64 ins) := (blk_cell hG 0).trans rfl
 have hc1 : w.cell? ⟨G, 1, none⟩ = some (.slice A0 g.length c0) := (blk_cell hG 1).trans rfl
 have hc2 : w.cell? ⟨G, 2, none⟩ = some ov := (blk_cell hG 2).trans rfl
 have HR := Aside0.mk hR
 have HG := Aside0.mk hG
 have HNE := Aside0.mk hne
 have HTY := Aside0.mk hty
 have HBS := Aside0.mk hbs
 have HN := Aside0.mk hn
 have HG' := Aside0.mk hg'
 clear hR hG hne hty hbs hlt hn hg'
 have hu1 := Try.underlying24
 have hu2 := Try.underlying93
 have hu3 := Try.underlying27
 have hu4 := Try.underlying85
 go_enter Try.func92, Try.ntmps92
 go_wp2_with (first
  | ((with_reducible refine gate_builtin (b := .append) (xs := #[.tmp 14, .tmp 19]) rfl ?_); at_builtin; refine Kd.R_append k93 (w0 := w) base rfl (.tmp 14) (.tmp 19) 24 93 (.agg #[.int .i64 0, .int .i64 0, .int .i64 0]) 24 rfl Try.underlying24 info_gate rfl (by decide) (by omega) _ g ⟨a1, a2, a3⟩ [.int .i64 a1, .int .i64 a2, .int .i64 a3] (fun _ => True) (fun _ => False) rfl (by first | (go_simp; done) | (go_simp; rfl)) ?aP (fun _ hk => hk.elim) ?aF ?aO ?aB ?aS ?aL ?_; (case aP => exact k93_mkM _ _ _ ⟨a1, a2, a3⟩); (case aF => exact fun _ _ => trivial); (case aO => (with_reducible repeat (first | apply Kd.R_alloc | apply Kd.R_drewN | apply Kd.R_drew)); exact HR.out); (case aB => repeat (first | (with_reducible first | exact Below.refl _ _ | apply below_alloc | apply pw_below_drewN | apply below_drew1))); (case aS => first | omega | (simp; omega)); (case aL => first | omega | (simp; omega)); intro v3 w3 hv hb3 hg_ ha_; obtain ⟨A3, c3, rfl⟩ := Kd.R_slice hv; have hG3 := (hg_.block G hGlt HNE.out).trans HG.out; have hd0 : w3.cell? ⟨G, 0, none⟩ = some (.int .i64 ins) := (blk_cell hG3 0).trans rfl; have hd1 : w3.cell? ⟨G, 1, none⟩ = some (.slice A0 g.length c0) := (blk_cell hG3 1).trans rfl; have hd2 : w3.cell? ⟨G, 2, none⟩ = some ov := (blk_cell hG3 2).trans rfl; have hd3 : w3.frozen? ⟨G, 1, none⟩ = false := blk_frozen hG3 1; have HV3 := Aside0.mk hv; have HG3 := Aside0.mk hG3; have HF3 := Aside0.mk (Fr.grown_own (tG := 93) (G := G) (base := base) hg_ (fun k e_ => ⟨HBS.out k e_, HTY.out k e_⟩)); clear hv hb3 hg_ ha_ hG3 hc0 hc1 hc2)
  | (go_at_call 67; go_in))
 go_ret
 refine ⟨congrArg (fun z => Ending.returned (.int .i64 z)) (by have := HN.out; omega), ?_, ?_⟩
 ·rw [HG'.out]
  refine ⟨.slice A3 (g.length + 1) c3, blk_alloc (by simpa using blk_set HG3.out 1 (.slice A3 (g.length + 1) c3)) _, ?_⟩
  have h5 := HV3.out
  rw [List.length_append, List.length_singleton] at h5
  exact Kd.R_alloc (Kd.R_set h5 HG3.out (by decide) 1 _) _
 ·exact (HF3.out.trans (Fr.setG (Fr.refl _ _ _ _) 1 _)).alloc _


-- HAND
/-! ### spec_l4Build_bits: function 62 -/
-- IMPORT Derived.StillTailTactics
set_option maxHeartbeats 16000000 in
set_option maxRecDepth 100000 in
/-- A constant gate for each bit. -/
theorem spec_l4Build_bits.calls (G base : Nat) (ins : Int) (ov : Value) (g : List S93) (n : Int) (wd : Nat) (w : World) (hb : base ≤ w.heap.size) (HBD : Bd 85 G base ins ov w g) (hi0 : 0 ≤ ins) (hi1 : ins ≤ 1000000) (hl : g.length ≤ 900000) (hal : wd ≤ 10000) (hn0 : 0 ≤ n) (hn1 : n < 18446744073709551616) :
  Calls Try.prog 62 #[.pointer (some ⟨G, 0, none⟩), .int .u64 n, .int .i64 wd] w fun e w' => ∃ v : Value, e = .returned v ∧ Bd 85 G base ins ov w' (emitN ins (fun i => ⟨1, bitv n i, 0⟩) g wd).1 ∧ Kd.R (Kd.int .i64) 3 w' w.heap.size (fun k => k ≠ G) v (emitN ins (fun i => ⟨1, bitv n i, 0⟩) g wd).2 ∧ Fr 93 G base w w' := by
 have hGlt : G < w.heap.size := by obtain ⟨gv, hG, _⟩ := HBD; exact blk_lt hG
 have HBD0 := Aside0.mk HBD
 clear HBD
 have hu1 := Try.underlying25
 go_enter Try.func62, Try.ntmps62
 go_wp2
 have HV0 := Aside0.mk (Kd.R_nil (Kd.int .i64) 3 w w.heap.size (fun k => k ≠ G))
 have HBD1 := HBD0
 have HF1 := Aside0.mk (Fr.refl 93 G base w)
 go_loopg [7, 8] wd (fun gg so si wr => ∃ kk : Nat, kk ≤ wd ∧ wd - kk ≤ gg ∧ si = .int .i64 kk ∧ Aside0 (Bd 85 G base ins ov wr (emitN ins (fun i => ⟨1, bitv n i, 0⟩) g kk).1) ∧ Aside0 (Kd.R (Kd.int .i64) 3 wr w.heap.size (fun k => k ≠ G) so (emitN ins (fun i => ⟨1, bitv n i, 0⟩) g kk).2) ∧ Aside0 (Fr 93 G base w wr))
 case atStart => exact ⟨0, Nat.zero_le _, by omega, rfl, HBD1, HV0, HF1⟩
 case round =>
  clear HBD0 HBD1 HV0 HF1
  obtain ⟨kk, hkk, hg, rfl, HBD, HV, HF⟩ := hrel
  have hlen := emitN_len ins (fun i => ⟨1, bitv n i, 0⟩) g kk
  by_cases hlt : kk < wd
  ·have hltz : (kk : Int) < (wd : Int) := by omega
   have hs : emitN ins (fun i => ⟨1, bitv n i, 0⟩) g (kk + 1) = ((emitN ins (fun i => ⟨1, bitv n i, 0⟩) g kk).1 ++ [⟨1, bitv n kk, 0⟩], (emitN ins (fun i => ⟨1, bitv n i, 0⟩) g kk).2 ++ [(ins + ((emitN ins (fun i => ⟨1, bitv n i, 0⟩) g kk).1.length : Int))]) := rfl
   obtain ⟨gs, hgs⟩ : ∃ q, (emitN ins (fun i => ⟨1, bitv n i, 0⟩) g kk).1 = q := ⟨_, rfl⟩
   obtain ⟨os, hos⟩ : ∃ q, (emitN ins (fun i => ⟨1, bitv n i, 0⟩) g kk).2 = q := ⟨_, rfl⟩
   rw [hgs, hos] at hlen hs
   rw [hgs] at HBD
   rw [hos] at HV
   clear hgs hos
   obtain ⟨hl1, hl2⟩ := hlen
   have hol : os.length ≤ 10000 := by omega
   have hgl : gs.length ≤ 950000 := by omega
   obtain ⟨d, hd⟩ : ∃ d, ins + (gs.length : Int) = d := ⟨_, rfl⟩
   rw [hd] at hs
   have hd0 : 0 ≤ d := by omega
   have hd1 : d ≤ 2000000 := by omega
   clear hl1 hl2
   obtain ⟨x, hx⟩ : ∃ x, bitv n kk = x := ⟨_, rfl⟩
   rw [hx] at hs
   have HX := Aside0.mk hx
   clear hx
   obtain ⟨g1, hg1⟩ : ∃ q, q = gs ++ [(⟨1, x, 0⟩ : S93)] := ⟨_, rfl⟩
   rw [← hg1] at hs
   have N0 := Aside0.mk (show d = ins + (gs.length : Int) by omega)
   have L0 : gs.length ≤ 1000000 := by omega
   have G1 := Aside0.mk hg1
   have tok1 : True := trivial
   have HS := Aside0.mk hs
   clear hs hd hg1
   clear hgl
   go_wp2_with (first
     | (go_at_call 92; have _t := tok1; refine calls_of_args (args' := #[.pointer (some ⟨G, 0, none⟩), .int .i64 1, .int .i64 x, .int .i64 0]) (by rw [← HX.out]; rfl) ?_; refine (spec_l4Build_gate.calls G base ins ov gs g1 1 x 0 d _ (Nat.le_trans hb HF.out.size) HBD.out hi0 hi1 L0 N0.out G1.out).mono ?_; rintro e w1 ⟨rfl, hbd, hf⟩; have B1 := Aside0.mk hbd; have F1 := Aside0.mk (HF.out.trans hf); have V1 := Aside0.mk (Fr.R hf HV.out (by decide) (fun _ hk => hk)); clear tok1 hbd hf)
     | ((with_reducible refine gate_builtin (b := .append) (xs := #[.tmp 14, .tmp 23]) rfl ?_); at_builtin; refine Kd.R_append (Kd.int .i64) (w0 := w1) w.heap.size rfl (.tmp 14) (.tmp 23) 25 3 (.int .i64 0) 8 rfl Try.underlying25 info_int rfl (by decide) (by omega) _ os d [.int .i64 d] (fun k => k ≠ G) (fun _ => False) rfl (by first | (go_simp; done) | (go_simp; rfl)) ?aP (fun _ hk => hk.elim) ?aF ?aO ?aB ?aS ?aL ?_; (case aP => exact rfl); (case aF => intro k hk; have hsz_ := F1.out.size; omega); (case aO => exact V1.out); (case aB => exact Below.refl _ _); (case aS => exact F1.out.size); (case aL => omega); intro v22 w22 hv _ hg_ _; have V22 := Aside0.mk hv; have B22 := Aside0.mk (Bd.grown B1.out hg_ (Kd.R_typed V1.out) (by decide) (by decide)); have F22 := Aside0.mk (Fr.grown_new F1.out hg_ (own_ge V1.out)); clear hv hg_))
   go_roundg (wd - (kk + 1))
   case measure => omega
   case rel => exact ⟨kk + 1, by omega, by omega, by go_num, by rw [HS.out]; exact B22, by rw [HS.out]; exact V22, F22⟩
  ·have hltz : ¬ (kk : Int) < (wd : Int) := by omega
   obtain rfl : kk = wd := by omega
   go_wp2
   go_ret
   exact ⟨_, rfl, HBD.out, HV.out, HF.out⟩


-- HAND
/-! ### spec_l4Build_nots: function 63 -/
-- IMPORT Derived.StillTailTactics
set_option maxHeartbeats 16000000 in
set_option maxRecDepth 100000 in
/-- A gate that denies, for each wire. -/
theorem spec_l4Build_nots.calls (G base : Nat) (ins : Int) (ov : Value) (g : List S93) (A1 : Option Addr) (c1 : Nat) (a : List Int) (w : World) (hb : base ≤ w.heap.size) (HBD : Bd 85 G base ins ov w g) (ha : (∀ W', Fr 93 G base w W' → Kd.C (Kd.int .i64) W' A1 a.length a)) (hi0 : 0 ≤ ins) (hi1 : ins ≤ 1000000) (hl : g.length ≤ 900000) (hal : a.length ≤ 10000) :
  Calls Try.prog 63 #[.pointer (some ⟨G, 0, none⟩), .slice A1 a.length c1] w fun e w' => ∃ v : Value, e = .returned v ∧ Bd 85 G base ins ov w' (emitN ins (fun i => ⟨2, rd a i, 0⟩) g a.length).1 ∧ Kd.R (Kd.int .i64) 3 w' w.heap.size (fun k => k ≠ G) v (emitN ins (fun i => ⟨2, rd a i, 0⟩) g a.length).2 ∧ Fr 93 G base w w' := by
 have hGlt : G < w.heap.size := by obtain ⟨gv, hG, _⟩ := HBD; exact blk_lt hG
 have HBD0 := Aside0.mk HBD
 have Hha := Aside0.mk ha
 clear HBD ha
 have hu1 := Try.underlying25
 go_enter Try.func63, Try.ntmps63
 go_wp2
 have HV0 := Aside0.mk (Kd.R_nil (Kd.int .i64) 3 w w.heap.size (fun k => k ≠ G))
 have HBD1 := HBD0
 have HF1 := Aside0.mk (Fr.refl 93 G base w)
 go_loopg [5, 10] a.length (fun gg so si wr => ∃ kk : Nat, kk ≤ a.length ∧ a.length - kk ≤ gg ∧ si = .int .i64 kk ∧ Aside0 (Bd 85 G base ins ov wr (emitN ins (fun i => ⟨2, rd a i, 0⟩) g kk).1) ∧ Aside0 (Kd.R (Kd.int .i64) 3 wr w.heap.size (fun k => k ≠ G) so (emitN ins (fun i => ⟨2, rd a i, 0⟩) g kk).2) ∧ Aside0 (Fr 93 G base w wr))
 case atStart => exact ⟨0, Nat.zero_le _, by omega, rfl, HBD1, HV0, HF1⟩
 case round =>
  clear HBD0 HBD1 HV0 HF1
  obtain ⟨kk, hkk, hg, rfl, HBD, HV, HF⟩ := hrel
  have hlen := emitN_len ins (fun i => ⟨2, rd a i, 0⟩) g kk
  by_cases hlt : kk < a.length
  ·have hltz : (kk : Int) < (a.length : Int) := by omega
   have hs : emitN ins (fun i => ⟨2, rd a i, 0⟩) g (kk + 1) = ((emitN ins (fun i => ⟨2, rd a i, 0⟩) g kk).1 ++ [⟨2, rd a kk, 0⟩], (emitN ins (fun i => ⟨2, rd a i, 0⟩) g kk).2 ++ [(ins + ((emitN ins (fun i => ⟨2, rd a i, 0⟩) g kk).1.length : Int))]) := rfl
   obtain ⟨gs, hgs⟩ : ∃ q, (emitN ins (fun i => ⟨2, rd a i, 0⟩) g kk).1 = q := ⟨_, rfl⟩
   obtain ⟨os, hos⟩ : ∃ q, (emitN ins (fun i => ⟨2, rd a i, 0⟩) g kk).2 = q := ⟨_, rfl⟩
   rw [hgs, hos] at hlen hs
   rw [hgs] at HBD
   rw [hos] at HV
   clear hgs hos
   obtain ⟨hl1, hl2⟩ := hlen
   have hol : os.length ≤ 10000 := by omega
   have hgl : gs.length ≤ 950000 := by omega
   obtain ⟨d, hd⟩ : ∃ d, ins + (gs.length : Int) = d := ⟨_, rfl⟩
   rw [hd] at hs
   have hd0 : 0 ≤ d := by omega
   have hd1 : d ≤ 2000000 := by omega
   clear hl1 hl2
   obtain ⟨ad, e, hxa⟩ := Kd.at_int (Hha.out _ HF.out) (kk : Int) (by omega) hltz
   cases e
   rw [Int.toNat_natCast] at hxa
   obtain ⟨x, hx⟩ : ∃ x, rd a kk = x := ⟨_, rfl⟩
   rw [hx] at hs hxa
   have HX := Aside0.mk hx
   clear hx
   obtain ⟨g1, hg1⟩ : ∃ q, q = gs ++ [(⟨2, x, 0⟩ : S93)] := ⟨_, rfl⟩
   rw [← hg1] at hs
   have N0 := Aside0.mk (show d = ins + (gs.length : Int) by omega)
   have L0 : gs.length ≤ 1000000 := by omega
   have G1 := Aside0.mk hg1
   have tok1 : True := trivial
   have HS := Aside0.mk hs
   clear hs hd hg1
   clear hgl
   go_wp2_with (first
     | (go_at_call 92; have _t := tok1; refine (spec_l4Build_gate.calls G base ins ov gs g1 2 x 0 d _ (Nat.le_trans hb HF.out.size) HBD.out hi0 hi1 L0 N0.out G1.out).mono ?_; rintro e w1 ⟨rfl, hbd, hf⟩; have B1 := Aside0.mk hbd; have F1 := Aside0.mk (HF.out.trans hf); have V1 := Aside0.mk (Fr.R hf HV.out (by decide) (fun _ hk => hk)); clear tok1 hbd hf hxa; have hxa := Fr.cellAt F1.out Hha.out hlt HX.out)
     | ((with_reducible refine gate_builtin (b := .append) (xs := #[.tmp 14, .tmp 18]) rfl ?_); at_builtin; refine Kd.R_append (Kd.int .i64) (w0 := w1) w.heap.size rfl (.tmp 14) (.tmp 18) 25 3 (.int .i64 0) 8 rfl Try.underlying25 info_int rfl (by decide) (by omega) _ os d [.int .i64 d] (fun k => k ≠ G) (fun _ => False) rfl (by first | (go_simp; done) | (go_simp; rfl)) ?aP (fun _ hk => hk.elim) ?aF ?aO ?aB ?aS ?aL ?_; (case aP => exact rfl); (case aF => intro k hk; have hsz_ := F1.out.size; omega); (case aO => exact V1.out); (case aB => exact Below.refl _ _); (case aS => exact F1.out.size); (case aL => omega); intro v22 w22 hv _ hg_ _; have V22 := Aside0.mk hv; have B22 := Aside0.mk (Bd.grown B1.out hg_ (Kd.R_typed V1.out) (by decide) (by decide)); have F22 := Aside0.mk (Fr.grown_new F1.out hg_ (own_ge V1.out)); clear hv hg_ hxa; have hxa := Fr.cellAt F22.out Hha.out hlt HX.out))
   go_roundg (a.length - (kk + 1))
   case measure => omega
   case rel => exact ⟨kk + 1, by omega, by omega, by go_num, by rw [HS.out]; exact B22, by rw [HS.out]; exact V22, F22⟩
  ·have hltz : ¬ (kk : Int) < (a.length : Int) := by omega
   obtain rfl : kk = a.length := by omega
   go_wp2
   go_ret
   exact ⟨_, rfl, HBD.out, HV.out, HF.out⟩


-- HAND
/-! ### spec_l4Build_add: function 93 -/
-- IMPORT Derived.StillTailTactics
set_option maxHeartbeats 16000000 in
set_option maxRecDepth 100000 in
/-- An adder that is put: its wires, and the circuit behind it. -/
theorem spec_l4Build_add.calls (G base : Nat) (ins : Int) (ov : Value) (g : List S93) (A1 A2 : Option Addr) (c1 c2 : Nat) (a b : List Int) (cr : Int) (w : World) (hb : base ≤ w.heap.size) (HBD : Bd 85 G base ins ov w g) (ha : (∀ W', Fr 93 G base w W' → Kd.C (Kd.int .i64) W' A1 a.length a)) (hb2 : (∀ W', Fr 93 G base w W' → Kd.C (Kd.int .i64) W' A2 b.length b)) (hi0 : 0 ≤ ins) (hi1 : ins ≤ 1000000) (hl : g.length ≤ 900000) (hal : a.length ≤ 10000) (hbl : b.length = a.length) :
  Calls Try.prog 93 #[.pointer (some ⟨G, 0, none⟩), .slice A1 a.length c1, .slice A2 b.length c2, .int .i64 cr] w fun e w' => ∃ v : Value, e = .returned v ∧ Bd 85 G base ins ov w' (addN ins a b cr g a.length).1 ∧ Kd.R (Kd.int .i64) 3 w' w.heap.size (fun k => k ≠ G) v (addN ins a b cr g a.length).2.1 ∧ Fr 93 G base w w' := by
 have hGlt : G < w.heap.size := by obtain ⟨gv, hG, _⟩ := HBD; exact blk_lt hG
 have HBD0 := Aside0.mk HBD
 have Hha := Aside0.mk ha
 have Hhb2 := Aside0.mk hb2
 have HBL := Aside0.mk hbl
 clear HBD ha hb2 hbl
 have hu1 := Try.underlying25
 go_enter Try.func93, Try.ntmps93
 go_wp2
 have HV0 := Aside0.mk (Kd.R_nil (Kd.int .i64) 3 w w.heap.size (fun k => k ≠ G))
 have HBD1 := HBD0
 have HF1 := Aside0.mk (Fr.refl 93 G base w)
 go_loopg [3, 9, 17] a.length (fun gg s3 so si wr => ∃ kk : Nat, kk ≤ a.length ∧ a.length - kk ≤ gg ∧ s3 = .int .i64 (addN ins a b cr g kk).2.2 ∧ si = .int .i64 kk ∧ Aside0 (Bd 85 G base ins ov wr (addN ins a b cr g kk).1) ∧ Aside0 (Kd.R (Kd.int .i64) 3 wr w.heap.size (fun k => k ≠ G) so (addN ins a b cr g kk).2.1) ∧ Aside0 (Fr 93 G base w wr))
 case atStart => exact ⟨0, Nat.zero_le _, by omega, rfl, rfl, HBD1, HV0, HF1⟩
 case round =>
  clear HBD0 HBD1 HV0 HF1
  obtain ⟨kk, hkk, hg, rfl, rfl, HBD, HV, HF⟩ := hrel
  have hlen := addN_len ins a b cr g kk
  by_cases hlt : kk < a.length
  ·have hltz : (kk : Int) < (a.length : Int) := by omega
   have hs : addN ins a b cr g (kk + 1) = ((addN ins a b cr g kk).1 ++ [⟨5, rd a kk, rd b kk⟩] ++ [⟨5, (ins + ((addN ins a b cr g kk).1.length : Int)), (addN ins a b cr g kk).2.2⟩] ++ [⟨3, rd a kk, rd b kk⟩] ++ [⟨3, (ins + ((addN ins a b cr g kk).1.length : Int)), (addN ins a b cr g kk).2.2⟩] ++ [⟨4, (ins + ((addN ins a b cr g kk).1.length : Int)) + 2, (ins + ((addN ins a b cr g kk).1.length : Int)) + 3⟩], (addN ins a b cr g kk).2.1 ++ [(ins + ((addN ins a b cr g kk).1.length : Int)) + 1], (ins + ((addN ins a b cr g kk).1.length : Int)) + 4) := rfl
   obtain ⟨gs, hgs⟩ : ∃ q, (addN ins a b cr g kk).1 = q := ⟨_, rfl⟩
   obtain ⟨os, hos⟩ : ∃ q, (addN ins a b cr g kk).2.1 = q := ⟨_, rfl⟩
   obtain ⟨cs, hcs⟩ : ∃ q, (addN ins a b cr g kk).2.2 = q := ⟨_, rfl⟩
   rw [hgs, hos] at hlen
   rw [hgs, hos, hcs] at hs
   rw [hgs] at HBD
   rw [hos] at HV
   rw [hcs]
   clear hgs hos hcs
   obtain ⟨hl1, hl2⟩ := hlen
   have hol : os.length ≤ 10000 := by omega
   have hgl : gs.length ≤ 950000 := by omega
   obtain ⟨d, hd⟩ : ∃ d, ins + (gs.length : Int) = d := ⟨_, rfl⟩
   rw [hd] at hs
   have hd0 : 0 ≤ d := by omega
   have hd1 : d ≤ 2000000 := by omega
   clear hl1 hl2
   obtain ⟨ad, e, hxa⟩ := Kd.at_int (Hha.out _ HF.out) (kk : Int) (by omega) hltz
   cases e
   rw [Int.toNat_natCast] at hxa
   have hltb : kk < b.length := by have := HBL.out; omega
   obtain ⟨ae, e, hya⟩ := Kd.at_int (Hhb2.out _ HF.out) (kk : Int) (by omega) (by omega)
   cases e
   rw [Int.toNat_natCast] at hya
   obtain ⟨x, hx⟩ : ∃ x, rd a kk = x := ⟨_, rfl⟩
   rw [hx] at hs hxa
   obtain ⟨y, hy⟩ : ∃ y, rd b kk = y := ⟨_, rfl⟩
   rw [hy] at hs hya
   have HX := Aside0.mk hx
   have HY := Aside0.mk hy
   clear hx hy
   obtain ⟨g1, hg1⟩ : ∃ q, q = gs ++ [(⟨5, x, y⟩ : S93)] := ⟨_, rfl⟩
   obtain ⟨g2, hg2⟩ : ∃ q, q = g1 ++ [(⟨5, d, cs⟩ : S93)] := ⟨_, rfl⟩
   obtain ⟨g3, hg3⟩ : ∃ q, q = g2 ++ [(⟨3, x, y⟩ : S93)] := ⟨_, rfl⟩
   obtain ⟨g4, hg4⟩ : ∃ q, q = g3 ++ [(⟨3, d, cs⟩ : S93)] := ⟨_, rfl⟩
   obtain ⟨g5, hg5⟩ : ∃ q, q = g4 ++ [(⟨4, (d + 2), (d + 3)⟩ : S93)] := ⟨_, rfl⟩
   rw [← hg1, ← hg2, ← hg3, ← hg4, ← hg5] at hs
   have n1 : (g1.length : Int) = gs.length + 1 := by rw [hg1]; simp; try omega
   have n2 : (g2.length : Int) = gs.length + 2 := by rw [hg2]; simp; try omega
   have n3 : (g3.length : Int) = gs.length + 3 := by rw [hg3]; simp; try omega
   have n4 : (g4.length : Int) = gs.length + 4 := by rw [hg4]; simp; try omega
   have N0 := Aside0.mk (show d = ins + (gs.length : Int) by omega)
   have L0 : gs.length ≤ 1000000 := by omega
   have N1 := Aside0.mk (show (d + 1) = ins + (g1.length : Int) by omega)
   have L1 : g1.length ≤ 1000000 := by omega
   have N2 := Aside0.mk (show (d + 2) = ins + (g2.length : Int) by omega)
   have L2 : g2.length ≤ 1000000 := by omega
   have N3 := Aside0.mk (show (d + 3) = ins + (g3.length : Int) by omega)
   have L3 : g3.length ≤ 1000000 := by omega
   have N4 := Aside0.mk (show (d + 4) = ins + (g4.length : Int) by omega)
   have L4 : g4.length ≤ 1000000 := by omega
   have G1 := Aside0.mk hg1
   have tok1 : True := trivial
   have G2 := Aside0.mk hg2
   have tok2 : True := trivial
   have G3 := Aside0.mk hg3
   have tok3 : True := trivial
   have G4 := Aside0.mk hg4
   have tok4 : True := trivial
   have G5 := Aside0.mk hg5
   have tok5 : True := trivial
   have HS := Aside0.mk hs
   clear hs hd hg1 hg2 hg3 hg4 hg5 n1 n2 n3 n4
   clear hgl
   go_wp2
   go_still_tail 9, (by kernel_rfl)
   change wpList _ _ _ _ _ wr.drew
   have BD1 := Aside0.mk (HBD.out.drew)
   have FD1 := Aside0.mk (HF.out.drew)
   have VD1 := Aside0.mk (Kd.R_drew HV.out)
   clear hxa hya
   generalize wr.drew = W1 at BD1 FD1 VD1 ⊢
   have hxa := Fr.cellAt FD1.out Hha.out hlt HX.out
   have hya := Fr.cellAt FD1.out Hhb2.out hltb HY.out
   go_wp2_with (first
     | (go_at_call 92; have _t := tok1; refine (spec_l4Build_gate.calls G base ins ov gs g1 5 x y d _ (Nat.le_trans hb FD1.out.size) BD1.out hi0 hi1 L0 N0.out G1.out).mono ?_; rintro e w1 ⟨rfl, hbd, hf⟩; have B1 := Aside0.mk hbd; have F1 := Aside0.mk (FD1.out.trans hf); have V1 := Aside0.mk (Fr.R hf VD1.out (by decide) (fun _ hk => hk)); clear tok1 hbd hf hxa hya; have hxa := Fr.cellAt F1.out Hha.out hlt HX.out; have hya := Fr.cellAt F1.out Hhb2.out hltb HY.out)
     | (go_at_call 92; have _t := tok2; refine (spec_l4Build_gate.calls G base ins ov g1 g2 5 d cs (d + 1) _ (Nat.le_trans hb F1.out.size) B1.out hi0 hi1 L1 N1.out G2.out).mono ?_; rintro e w2 ⟨rfl, hbd, hf⟩; have B2 := Aside0.mk hbd; have F2 := Aside0.mk (F1.out.trans hf); have V2 := Aside0.mk (Fr.R hf V1.out (by decide) (fun _ hk => hk)); clear tok2 hbd hf hxa hya; have hxa := Fr.cellAt F2.out Hha.out hlt HX.out; have hya := Fr.cellAt F2.out Hhb2.out hltb HY.out))
   go_still_tail 9, (by kernel_rfl)
   change wpList _ _ _ _ _ w2.drew
   have BD2 := Aside0.mk (B2.out.drew)
   have FD2 := Aside0.mk (F2.out.drew)
   have VD2 := Aside0.mk (Kd.R_drew V2.out)
   clear hxa hya
   generalize w2.drew = W2 at BD2 FD2 VD2 ⊢
   have hxa := Fr.cellAt FD2.out Hha.out hlt HX.out
   have hya := Fr.cellAt FD2.out Hhb2.out hltb HY.out
   go_wp2_with (first
     | (go_at_call 92; have _t := tok3; refine (spec_l4Build_gate.calls G base ins ov g2 g3 3 x y (d + 2) _ (Nat.le_trans hb FD2.out.size) BD2.out hi0 hi1 L2 N2.out G3.out).mono ?_; rintro e w3 ⟨rfl, hbd, hf⟩; have B3 := Aside0.mk hbd; have F3 := Aside0.mk (FD2.out.trans hf); have V3 := Aside0.mk (Fr.R hf VD2.out (by decide) (fun _ hk => hk)); clear tok3 hbd hf hxa hya; have hxa := Fr.cellAt F3.out Hha.out hlt HX.out; have hya := Fr.cellAt F3.out Hhb2.out hltb HY.out)
     | (go_at_call 92; have _t := tok4; refine (spec_l4Build_gate.calls G base ins ov g3 g4 3 d cs (d + 3) _ (Nat.le_trans hb F3.out.size) B3.out hi0 hi1 L3 N3.out G4.out).mono ?_; rintro e w4 ⟨rfl, hbd, hf⟩; have B4 := Aside0.mk hbd; have F4 := Aside0.mk (F3.out.trans hf); have V4 := Aside0.mk (Fr.R hf V3.out (by decide) (fun _ hk => hk)); clear tok4 hbd hf hxa hya; have hxa := Fr.cellAt F4.out Hha.out hlt HX.out; have hya := Fr.cellAt F4.out Hhb2.out hltb HY.out)
     | (go_at_call 92; have _t := tok5; refine (spec_l4Build_gate.calls G base ins ov g4 g5 4 (d + 2) (d + 3) (d + 4) _ (Nat.le_trans hb F4.out.size) B4.out hi0 hi1 L4 N4.out G5.out).mono ?_; rintro e w5 ⟨rfl, hbd, hf⟩; have B5 := Aside0.mk hbd; have F5 := Aside0.mk (F4.out.trans hf); have V5 := Aside0.mk (Fr.R hf V4.out (by decide) (fun _ hk => hk)); clear tok5 hbd hf hxa hya; have hxa := Fr.cellAt F5.out Hha.out hlt HX.out; have hya := Fr.cellAt F5.out Hhb2.out hltb HY.out)
     | ((with_reducible refine gate_builtin (b := .append) (xs := #[.tmp 52, .tmp 54]) rfl ?_); at_builtin; refine Kd.R_append (Kd.int .i64) (w0 := w5) w.heap.size rfl (.tmp 52) (.tmp 54) 25 3 (.int .i64 0) 8 rfl Try.underlying25 info_int rfl (by decide) (by omega) _ os (d + 1) [.int .i64 (d + 1)] (fun k => k ≠ G) (fun _ => False) rfl (by first | (go_simp; done) | (go_simp; rfl)) ?aP (fun _ hk => hk.elim) ?aF ?aO ?aB ?aS ?aL ?_; (case aP => exact rfl); (case aF => intro k hk; have hsz_ := F5.out.size; omega); (case aO => exact V5.out); (case aB => exact Below.refl _ _); (case aS => exact F5.out.size); (case aL => omega); intro v22 w22 hv _ hg_ _; have V22 := Aside0.mk hv; have B22 := Aside0.mk (Bd.grown B5.out hg_ (Kd.R_typed V5.out) (by decide) (by decide)); have F22 := Aside0.mk (Fr.grown_new F5.out hg_ (own_ge V5.out)); clear hv hg_ hxa hya; have hxa := Fr.cellAt F22.out Hha.out hlt HX.out; have hya := Fr.cellAt F22.out Hhb2.out hltb HY.out))
   go_roundg (a.length - (kk + 1))
   case measure => omega
   case rel => exact ⟨kk + 1, by omega, by omega, by rw [HS.out], by go_num, by rw [HS.out]; exact B22, by rw [HS.out]; exact V22, F22⟩
  ·have hltz : ¬ (kk : Int) < (a.length : Int) := by omega
   obtain rfl : kk = a.length := by omega
   go_wp2
   go_ret
   exact ⟨_, rfl, HBD.out, HV.out, HF.out⟩


-- HAND
/-! ### spec_l4Build_mul: function 94 -/
-- IMPORT Derived.StillTailTactics
set_option maxHeartbeats 16000000 in
set_option maxRecDepth 100000 in
/-- A multiplier that is put: its wires, and the circuit behind it. -/
theorem spec_l4Build_mul.calls (G base : Nat) (ins : Int) (ov : Value) (g : List S93) (A1 A2 : Option Addr) (c1 c2 : Nat) (a b : List Int) (w : World) (hb : base ≤ w.heap.size) (HBD : Bd 85 G base ins ov w g) (ha : (∀ W', Fr 93 G base w W' → Kd.C (Kd.int .i64) W' A1 a.length a)) (hb2 : (∀ W', Fr 93 G base w W' → Kd.C (Kd.int .i64) W' A2 b.length b)) (hi0 : 0 ≤ ins) (hi1 : ins ≤ 1000000) (hl : g.length ≤ 900000) (hlm : g.length ≤ 800000) (hal : a.length ≤ 50) (hbl : b.length = a.length) :
  Calls Try.prog 94 #[.pointer (some ⟨G, 0, none⟩), .slice A1 a.length c1, .slice A2 b.length c2] w fun e w' => ∃ v : Value, e = .returned v ∧ Bd 85 G base ins ov w' (mulN ins a b g b.length).1 ∧ Kd.R (Kd.int .i64) 3 w' w.heap.size (fun k => k ≠ G) v (mulN ins a b g b.length).2 ∧ Fr 93 G base w w' := by
 have hGlt : G < w.heap.size := by obtain ⟨gv, hG, _⟩ := HBD; exact blk_lt hG
 have HBD0 := Aside0.mk HBD
 have Hha := Aside0.mk ha
 have Hhb2 := Aside0.mk hb2
 have HBL := Aside0.mk hbl
 clear HBD ha hb2 hbl
 have hu1 := Try.underlying25
 have tok0 : True := trivial
 have tokA : True := trivial
 go_enter Try.func94, Try.ntmps94
 go_wp2_with (go_at_call 62; have _t := tok0; refine (spec_l4Build_bits.calls G base ins ov g 0 a.length w hb HBD0.out hi0 hi1 hl (by omega) (by omega) (by omega)).mono ?_; rintro e w0 ⟨v0, rfl, hbd, hv, hf⟩; have B0 := Aside0.mk hbd; have V0 := Aside0.mk hv; have F0 := Aside0.mk hf; clear tok0 hbd hv hf)
 have HZ := Aside0.mk (show emitN ins (fun i => ⟨1, bitv 0 i, 0⟩) g a.length = mulN ins a b g 0 from by simp only [bitv_zero]; rfl)
 rw [HZ.out] at B0 V0
 clear HZ
 go_loopg [7, 18] b.length (fun gg so si wr => ∃ kk : Nat, kk ≤ b.length ∧ b.length - kk ≤ gg ∧ si = .int .i64 kk ∧ Aside0 (Bd 85 G base ins ov wr (mulN ins a b g kk).1) ∧ Aside0 (Kd.R (Kd.int .i64) 3 wr w.heap.size (fun k => k ≠ G) so (mulN ins a b g kk).2) ∧ Aside0 (Fr 93 G base w wr))
 case atStart => exact ⟨0, Nat.zero_le _, by omega, rfl, B0, V0, F0⟩
 case round =>
  clear HBD0 B0 V0 F0
  obtain ⟨kk, hkk, hg, rfl, HBD, HV, HF⟩ := hrel
  have hlen := mulN_len ins a b g kk
  by_cases hlt : kk < b.length
  ·have hltz : (kk : Int) < (b.length : Int) := by omega
   have hs : mulN ins a b g (kk + 1) = ((addN ins (mulN ins a b g kk).2 (emitN ins (mulF a b kk) (mulN ins a b g kk).1 a.length).2 (ins + ((emitN ins (mulF a b kk) (mulN ins a b g kk).1 a.length).1.length : Int)) ((emitN ins (mulF a b kk) (mulN ins a b g kk).1 a.length).1 ++ [⟨1, 0, 0⟩]) (mulN ins a b g kk).2.length).1, (addN ins (mulN ins a b g kk).2 (emitN ins (mulF a b kk) (mulN ins a b g kk).1 a.length).2 (ins + ((emitN ins (mulF a b kk) (mulN ins a b g kk).1 a.length).1.length : Int)) ((emitN ins (mulF a b kk) (mulN ins a b g kk).1 a.length).1 ++ [⟨1, 0, 0⟩]) (mulN ins a b g kk).2.length).2.1) := rfl
   have hkl : kk * (6 * a.length + 1) ≤ 50 * (6 * 50 + 1) := Nat.mul_le_mul (by have := HBL.out; omega) (by omega)
   obtain ⟨gs, hgs⟩ : ∃ q, (mulN ins a b g kk).1 = q := ⟨_, rfl⟩
   obtain ⟨ss, hss⟩ : ∃ q, (mulN ins a b g kk).2 = q := ⟨_, rfl⟩
   rw [hgs, hss] at hlen hs
   rw [hgs] at HBD
   rw [hss] at HV
   clear hgs hss
   obtain ⟨hl1, hl2⟩ := hlen
   have hgl : gs.length ≤ 820000 := by omega
   clear hl1 hkl
   have HSS := Aside0.mk hl2
   have HSL : ss.length ≤ 10000 := by omega
   clear hl2
   obtain ⟨A7, c7, rfl⟩ := Kd.R_slice HV.out
   have HS := Aside0.mk hs
   clear hs
   obtain ⟨y, hy⟩ : ∃ y, rd b kk = y := ⟨_, rfl⟩
   have HY := Aside0.mk hy
   clear hy
   have HKK := Aside0.mk hkk
   have hkb : kk ≤ 50 := by have := HBL.out; omega
   clear hkk
   obtain ⟨ae, e, hya0⟩ := Kd.at_int (Hhb2.out _ HF.out) (kk : Int) (by omega) hltz
   cases e
   clear hya0
   have hszr := HF.out.size
   go_wp2
   obtain ⟨N5, hN5⟩ : ∃ q, wr.heap.size = q := ⟨_, rfl⟩
   have P0 := Aside0.mk (Kd.R_nil (Kd.int .i64) 3 wr wr.heap.size (fun k => k ≠ G))
   have Q0 := Aside0.mk (R_till HV.out)
   have B5 := HBD
   have F5 := HF
   simp only [hN5] at P0 Q0
   have HN5 := Aside0.mk hN5
   have hN5l : w.heap.size ≤ N5 := by omega
   have hN5G : G < N5 := by omega
   clear hN5 HBD HF
   go_loopg [9, 23] a.length (fun gg so si wr => ∃ ii : Nat, ii ≤ a.length ∧ a.length - ii ≤ gg ∧ si = .int .i64 ii ∧ Aside0 (Bd 85 G base ins ov wr (emitN ins (mulF a b kk) gs ii).1) ∧ Aside0 (Kd.R (Kd.int .i64) 3 wr N5 (fun k => k ≠ G) so (emitN ins (mulF a b kk) gs ii).2) ∧ Aside0 (Kd.R (Kd.int .i64) 3 wr w.heap.size (fun k => k ≠ G ∧ k < N5) (.slice A7 ss.length c7) ss) ∧ Aside0 (Fr 93 G base w wr) ∧ N5 ≤ wr.heap.size)
   case atStart => exact ⟨0, Nat.zero_le _, by omega, rfl, B5, P0, Q0, F5, by have hn_ := HN5.out; first | omega | (simp; omega)⟩
   case round =>
    clear B5 P0 Q0 F5
    obtain ⟨ii, hii, hg2, rfl, HBD, HP, HQ, HF, hsz5⟩ := hrel
    have hlen := emitN_len ins (mulF a b kk) gs ii
    by_cases hlt2 : ii < a.length
    ·have hlt2z : (ii : Int) < (a.length : Int) := by omega
     have hs2 : emitN ins (mulF a b kk) gs (ii + 1) = ((emitN ins (mulF a b kk) gs ii).1 ++ [mulF a b kk ii], (emitN ins (mulF a b kk) gs ii).2 ++ [ins + ((emitN ins (mulF a b kk) gs ii).1.length : Int)]) := rfl
     obtain ⟨gt, hgt⟩ : ∃ q, (emitN ins (mulF a b kk) gs ii).1 = q := ⟨_, rfl⟩
     obtain ⟨os, hos⟩ : ∃ q, (emitN ins (mulF a b kk) gs ii).2 = q := ⟨_, rfl⟩
     rw [hgt, hos] at hlen hs2
     rw [hgt] at HBD
     rw [hos] at HP
     clear hgt hos
     obtain ⟨hl1, hl2⟩ := hlen
     have hol : os.length ≤ 10000 := by omega
     have L0 : gt.length ≤ 1000000 := by omega
     obtain ⟨d, hd⟩ : ∃ d, ins + (gt.length : Int) = d := ⟨_, rfl⟩
     rw [hd] at hs2
     have N0 := Aside0.mk hd.symm
     have hd0 : 0 ≤ d := by omega
     have hd1 : d ≤ 2000000 := by omega
     clear hl1 hl2 hd
     by_cases hik : ii < kk
     ·have hikz : (ii : Int) < (kk : Int) := by omega
      have hd2 : decide (ii < kk) = true := decide_eq_true hik
      have hd3 : decide ((ii : Int) < (kk : Int)) = true := decide_eq_true hikz
      obtain ⟨g1, hg1⟩ : ∃ q, q = gt ++ [(⟨1, 0, 0⟩ : S93)] := ⟨_, rfl⟩
      rw [show mulF a b kk ii = ⟨1, 0, 0⟩ from if_pos hik, ← hg1] at hs2
      have HS2 := Aside0.mk hs2
      have G1 := Aside0.mk hg1
      have tok1 : True := trivial
      clear hs2 hg1
      go_wp2_with (first | (go_at_call 92; have _t := tok1; refine (spec_l4Build_gate.calls G base ins ov gt g1 1 0 0 d _ (Nat.le_trans hb HF.out.size) HBD.out hi0 hi1 L0 N0.out G1.out).mono ?_; rintro e w1 ⟨rfl, hbd, hf⟩; have B1 := Aside0.mk hbd; have F1 := Aside0.mk (HF.out.trans hf); have hsz1 : N5 ≤ w1.heap.size := Nat.le_trans hsz5 hf.size; have P1 := Aside0.mk (Fr.R hf HP.out (by decide) (fun _ hk => hk)); have Q1 := Aside0.mk (Fr.R hf HQ.out (by decide) (fun _ hk => hk.1)); clear tok1 hbd hf) | ((with_reducible refine gate_builtin (b := .append) (xs := #[.tmp 29, .tmp 32]) rfl ?_); at_builtin; refine Kd.R_append (Kd.int .i64) (w0 := w1) N5 rfl (.tmp 29) (.tmp 32) 25 3 (.int .i64 0) 8 rfl Try.underlying25 info_int rfl (by decide) (by omega) _ os d [.int .i64 d] (fun k => k ≠ G) (fun _ => False) rfl (by first | (go_simp; done) | (go_simp; rfl)) ?aP (fun _ hk => hk.elim) ?aF ?aO ?aB ?aS ?aL ?_; (case aP => exact rfl); (case aF => intro k hk; omega); (case aO => exact P1.out); (case aB => exact Below.refl _ _); (case aS => exact hsz1); (case aL => omega); intro v22 w22 hv _ hg_ _; have P22 := Aside0.mk hv; have Q22 := Aside0.mk (R_old_grown Q1.out hg_ (own_ge P1.out)); have B22 := Aside0.mk (Bd.grown B1.out hg_ (Kd.R_typed P1.out) (by decide) (by decide)); have F22 := Aside0.mk (Fr.grown_new F1.out hg_ (fun k e_ => Nat.le_trans hN5l (own_ge P1.out k e_))); have hsz22 : N5 ≤ w22.heap.size := Nat.le_trans hsz1 hg_.size; clear hv hg_))
      go_roundg (a.length - (ii + 1))
      case measure => omega
      case rel => exact ⟨ii + 1, by omega, by omega, by go_num, by rw [HS2.out]; exact B22, by rw [HS2.out]; exact P22, Q22, F22, hsz22⟩
     ·have hikz : ¬ (ii : Int) < (kk : Int) := by omega
      have hd2 : decide (ii < kk) = false := decide_eq_false hik
      have hd3 : decide ((ii : Int) < (kk : Int)) = false := decide_eq_false hikz
      have hij0 : 0 ≤ (ii : Int) - kk := by omega
      have hij1 : (ii : Int) - kk < a.length := by omega
      have hijn : ((ii : Int) - kk).toNat = ii - kk := by omega
      obtain ⟨x, hx⟩ : ∃ x, rd a ((ii : Int) - kk) = x := ⟨_, rfl⟩
      obtain ⟨g1, hg1⟩ : ∃ q, q = gt ++ [(⟨3, x, y⟩ : S93)] := ⟨_, rfl⟩
      rw [show mulF a b kk ii = ⟨3, x, y⟩ from by rw [← hx, ← HY.out]; exact if_neg hik, ← hg1] at hs2
      have HS2 := Aside0.mk hs2
      have G1 := Aside0.mk hg1
      have HX := Aside0.mk hx
      have tok1 : True := trivial
      clear hs2 hg1 hx
      obtain ⟨ad, e, hxa⟩ := Kd.at_int (Hha.out _ HF.out) ((ii : Int) - kk) hij0 hij1
      cases e
      rw [HX.out] at hxa
      have hya := Fr.cellAt HF.out Hhb2.out hlt HY.out
      try simp only [hijn] at hxa
      have hwij : IntKind.i64.wrap ((ii : Int) - kk) = (ii : Int) - kk := IntWalk.i64_in _ (by omega)
      go_wp2
      have BD := Aside0.mk (HBD.out.drew)
      have FD := Aside0.mk (HF.out.drew)
      have PD := Aside0.mk (Kd.R_drew HP.out)
      have QD := Aside0.mk (Kd.R_drew HQ.out)
      go_region_held3 (fun w' => w'.cell? (ad.add (ii - kk)) = some (.int .i64 x) ∧ w'.cell? (ae.add kk) = some (.int .i64 y)) (first | exact ⟨hxa, hya⟩ | exact ⟨bd_cell_new hxa _, bd_cell_new hya _⟩ | go_keep) (first | (go_at_call 92; have _t := tok1; refine (spec_l4Build_gate.calls G base ins ov gt g1 3 x y d _ (Nat.le_trans hb FD.out.size) BD.out hi0 hi1 L0 N0.out G1.out).mono ?_; rintro e w1 ⟨rfl, hbd, hf⟩; have B1 := Aside0.mk hbd; have F1 := Aside0.mk (FD.out.trans hf); have hsz1 : N5 ≤ w1.heap.size := Nat.le_trans hsz5 hf.size; have P1 := Aside0.mk (Fr.R hf PD.out (by decide) (fun _ hk => hk)); have Q1 := Aside0.mk (Fr.R hf QD.out (by decide) (fun _ hk => hk.1)); clear tok1 hbd hf hxa hya; have hxa := Fr.cellAtI F1.out Hha.out hij0 hij1 HX.out; have hya := Fr.cellAt F1.out Hhb2.out hlt HY.out; try simp only [hijn] at hxa) | (refine Kd.R_append_step (Kd.int .i64) (w0 := w1) N5 (by rfl) (.tmp 34) (.tmp 47) 25 3 (.int .i64 0) 8 rfl Try.underlying25 info_int rfl (by decide) (by omega) _ os d [.int .i64 d] (fun k => k ≠ G) (fun _ => False) rfl (by first | (go_simp; done) | (go_simp; rfl)) ?aP (fun _ hk => hk.elim) ?aF ?aO ?aB ?aS ?aL ?_; (case aP => exact rfl); (case aF => intro k hk; omega); (case aO => exact P1.out); (case aB => exact Below.refl _ _); (case aS => exact hsz1); (case aL => omega); intro v22 w22 hv _ hg_ _; have P22 := Aside0.mk hv; have Q22 := Aside0.mk (R_old_grown Q1.out hg_ (own_ge P1.out)); have B22 := Aside0.mk (Bd.grown B1.out hg_ (Kd.R_typed P1.out) (by decide) (by decide)); have F22 := Aside0.mk (Fr.grown_new F1.out hg_ (fun k e_ => Nat.le_trans hN5l (own_ge P1.out k e_))); have hsz22 : N5 ≤ w22.heap.size := Nat.le_trans hsz1 hg_.size; clear hv hg_ hxa hya; have hxa := Fr.cellAtI F22.out Hha.out hij0 hij1 HX.out; have hya := Fr.cellAt F22.out Hhb2.out hlt HY.out; try simp only [hijn] at hxa))
      go_wp2
      go_roundg (a.length - (ii + 1))
      case measure => omega
      case rel => exact ⟨ii + 1, by omega, by omega, by go_num, by rw [HS2.out]; exact B22, by rw [HS2.out]; exact P22, Q22, F22, hsz22⟩
    ·have hlt2z : ¬ (ii : Int) < (a.length : Int) := by omega
     obtain rfl : ii = a.length := by omega
     obtain ⟨gp, hgp⟩ : ∃ q, (emitN ins (mulF a b kk) gs a.length).1 = q := ⟨_, rfl⟩
     obtain ⟨os, hos⟩ : ∃ q, (emitN ins (mulF a b kk) gs a.length).2 = q := ⟨_, rfl⟩
     have hs3 := HS.out
     rw [hgp, hos] at hlen hs3
     rw [hgp] at HBD
     rw [hos] at HP
     clear hgp hos HS
     obtain ⟨hl1, hl2⟩ := hlen
     obtain ⟨A9, c9, rfl⟩ := Kd.R_slice HP.out
     have HOS := Aside0.mk (show os.length = ss.length by have := HSS.out; omega)
     have L0 : gp.length ≤ 1000000 := by omega
     obtain ⟨gq, hgq⟩ : ∃ q, q = gp ++ [(⟨1, 0, 0⟩ : S93)] := ⟨_, rfl⟩
     have L1 : gq.length ≤ 900000 := by rw [hgq, List.length_append, List.length_singleton]; omega
     obtain ⟨d, hd⟩ : ∃ d, ins + (gp.length : Int) = d := ⟨_, rfl⟩
     rw [hd, ← hgq] at hs3
     have N0 := Aside0.mk hd.symm
     have G1 := Aside0.mk hgq
     have HS3 := Aside0.mk hs3
     have hd0 : 0 ≤ d := by omega
     have hd1 : d ≤ 2000000 := by omega
     have tok2 : True := trivial
     clear hl1 hl2 hd hgq hs3
     go_wp2_with (first | (go_at_call 92; have _t := tok2; refine (spec_l4Build_gate.calls G base ins ov gp gq 1 0 0 d _ (Nat.le_trans hb HF.out.size) HBD.out hi0 hi1 L0 N0.out G1.out).mono ?_; rintro e w1 ⟨rfl, hbd, hf⟩; have B1 := Aside0.mk hbd; have F1 := Aside0.mk (HF.out.trans hf); have P1 := Aside0.mk (Fr.R hf HP.out (by decide) (fun _ hk => hk)); have Q1 := Aside0.mk (Fr.R hf HQ.out (by decide) (fun _ hk => hk.1)); clear tok2 hbd hf) | (go_at_call 93; have _t := tokA; refine (spec_l4Build_add.calls G base ins ov gq A7 A9 c7 c9 ss os d w1 (Nat.le_trans hb F1.out.size) B1.out (Fr.C_own Q1.out (by decide) (fun _ hk => hk.1)) (Fr.C_own P1.out (by decide) (fun _ hk => hk)) hi0 hi1 L1 HSL HOS.out).mono ?_; rintro e w2 ⟨v2, rfl, hbd, hv, hf⟩; have B2 := Aside0.mk hbd; have V2 := Aside0.mk (Kd.R_lower hv F1.out.size); have F2 := Aside0.mk (F1.out.trans hf); clear tokA hbd hv hf))
     go_roundg (b.length - (kk + 1))
     case measure => omega
     case rel => exact ⟨kk + 1, by omega, by omega, by go_num, by rw [HS3.out]; exact B2, by rw [HS3.out]; exact V2, F2⟩
  ·have hltz : ¬ (kk : Int) < (b.length : Int) := by omega
   obtain rfl : kk = b.length := by omega
   go_wp2
   go_ret
   exact ⟨_, rfl, HBD.out, HV.out, HF.out⟩


-- HAND
/-! ### spec_l4Build_each: function 95 -/
-- IMPORT Derived.StillTailTactics
set_option maxHeartbeats 16000000 in
set_option maxRecDepth 100000 in
/-- A gate for each position. -/
theorem spec_l4Build_each.calls (G base : Nat) (ins : Int) (ov : Value) (g : List S93) (kd : Int) (A1 A2 : Option Addr) (c1 c2 : Nat) (a b : List Int) (w : World) (hb : base ≤ w.heap.size) (HBD : Bd 85 G base ins ov w g) (ha : (∀ W', Fr 93 G base w W' → Kd.C (Kd.int .i64) W' A1 a.length a)) (hb2 : (∀ W', Fr 93 G base w W' → Kd.C (Kd.int .i64) W' A2 b.length b)) (hi0 : 0 ≤ ins) (hi1 : ins ≤ 1000000) (hl : g.length ≤ 900000) (hal : a.length ≤ 10000) (hbl : b.length = a.length) :
  Calls Try.prog 95 #[.pointer (some ⟨G, 0, none⟩), .int .i64 kd, .slice A1 a.length c1, .slice A2 b.length c2] w fun e w' => ∃ v : Value, e = .returned v ∧ Bd 85 G base ins ov w' (emitN ins (fun i => ⟨kd, rd a i, rd b i⟩) g a.length).1 ∧ Kd.R (Kd.int .i64) 3 w' w.heap.size (fun k => k ≠ G) v (emitN ins (fun i => ⟨kd, rd a i, rd b i⟩) g a.length).2 ∧ Fr 93 G base w w' := by
 have hGlt : G < w.heap.size := by obtain ⟨gv, hG, _⟩ := HBD; exact blk_lt hG
 have HBD0 := Aside0.mk HBD
 have Hha := Aside0.mk ha
 have Hhb2 := Aside0.mk hb2
 have HBL := Aside0.mk hbl
 clear HBD ha hb2 hbl
 have hu1 := Try.underlying25
 go_enter Try.func95, Try.ntmps95
 go_wp2
 have HV0 := Aside0.mk (Kd.R_nil (Kd.int .i64) 3 w w.heap.size (fun k => k ≠ G))
 have HBD1 := HBD0
 have HF1 := Aside0.mk (Fr.refl 93 G base w)
 go_loopg [9, 13] a.length (fun gg so si wr => ∃ kk : Nat, kk ≤ a.length ∧ a.length - kk ≤ gg ∧ si = .int .i64 kk ∧ Aside0 (Bd 85 G base ins ov wr (emitN ins (fun i => ⟨kd, rd a i, rd b i⟩) g kk).1) ∧ Aside0 (Kd.R (Kd.int .i64) 3 wr w.heap.size (fun k => k ≠ G) so (emitN ins (fun i => ⟨kd, rd a i, rd b i⟩) g kk).2) ∧ Aside0 (Fr 93 G base w wr))
 case atStart => exact ⟨0, Nat.zero_le _, by omega, rfl, HBD1, HV0, HF1⟩
 case round =>
  clear HBD0 HBD1 HV0 HF1
  obtain ⟨kk, hkk, hg, rfl, HBD, HV, HF⟩ := hrel
  have hlen := emitN_len ins (fun i => ⟨kd, rd a i, rd b i⟩) g kk
  by_cases hlt : kk < a.length
  ·have hltz : (kk : Int) < (a.length : Int) := by omega
   have hs : emitN ins (fun i => ⟨kd, rd a i, rd b i⟩) g (kk + 1) = ((emitN ins (fun i => ⟨kd, rd a i, rd b i⟩) g kk).1 ++ [⟨kd, rd a kk, rd b kk⟩], (emitN ins (fun i => ⟨kd, rd a i, rd b i⟩) g kk).2 ++ [(ins + ((emitN ins (fun i => ⟨kd, rd a i, rd b i⟩) g kk).1.length : Int))]) := rfl
   obtain ⟨gs, hgs⟩ : ∃ q, (emitN ins (fun i => ⟨kd, rd a i, rd b i⟩) g kk).1 = q := ⟨_, rfl⟩
   obtain ⟨os, hos⟩ : ∃ q, (emitN ins (fun i => ⟨kd, rd a i, rd b i⟩) g kk).2 = q := ⟨_, rfl⟩
   rw [hgs, hos] at hlen hs
   rw [hgs] at HBD
   rw [hos] at HV
   clear hgs hos
   obtain ⟨hl1, hl2⟩ := hlen
   have hol : os.length ≤ 10000 := by omega
   have hgl : gs.length ≤ 950000 := by omega
   obtain ⟨d, hd⟩ : ∃ d, ins + (gs.length : Int) = d := ⟨_, rfl⟩
   rw [hd] at hs
   have hd0 : 0 ≤ d := by omega
   have hd1 : d ≤ 2000000 := by omega
   clear hl1 hl2
   obtain ⟨ad, e, hxa⟩ := Kd.at_int (Hha.out _ HF.out) (kk : Int) (by omega) hltz
   cases e
   rw [Int.toNat_natCast] at hxa
   have hltb : kk < b.length := by have := HBL.out; omega
   obtain ⟨ae, e, hya⟩ := Kd.at_int (Hhb2.out _ HF.out) (kk : Int) (by omega) (by omega)
   cases e
   rw [Int.toNat_natCast] at hya
   obtain ⟨x, hx⟩ : ∃ x, rd a kk = x := ⟨_, rfl⟩
   rw [hx] at hs hxa
   obtain ⟨y, hy⟩ : ∃ y, rd b kk = y := ⟨_, rfl⟩
   rw [hy] at hs hya
   have HX := Aside0.mk hx
   have HY := Aside0.mk hy
   clear hx hy
   obtain ⟨g1, hg1⟩ : ∃ q, q = gs ++ [(⟨kd, x, y⟩ : S93)] := ⟨_, rfl⟩
   rw [← hg1] at hs
   have N0 := Aside0.mk (show d = ins + (gs.length : Int) by omega)
   have L0 : gs.length ≤ 1000000 := by omega
   have G1 := Aside0.mk hg1
   have tok1 : True := trivial
   have HS := Aside0.mk hs
   clear hs hd hg1
   clear hgl
   go_wp2
   have BD1 := Aside0.mk (HBD.out.drew)
   have FD1 := Aside0.mk (HF.out.drew)
   have VD1 := Aside0.mk (Kd.R_drew HV.out)
   go_region_held3 (fun w' => w'.cell? (ad.add kk) = some (.int .i64 x) ∧ w'.cell? (ae.add kk) = some (.int .i64 y)) (first | exact ⟨hxa, hya⟩ | exact ⟨bd_cell_new hxa _, bd_cell_new hya _⟩ | go_keep) (first | (go_at_call 92; have _t := tok1; refine (spec_l4Build_gate.calls G base ins ov gs g1 kd x y d _ (Nat.le_trans hb FD1.out.size) BD1.out hi0 hi1 L0 N0.out G1.out).mono ?_; rintro e w1 ⟨rfl, hbd, hf⟩; have B1 := Aside0.mk hbd; have F1 := Aside0.mk (FD1.out.trans hf); have V1 := Aside0.mk (Fr.R hf VD1.out (by decide) (fun _ hk => hk)); clear tok1 hbd hf hxa hya; have hxa := Fr.cellAt F1.out Hha.out hlt HX.out; have hya := Fr.cellAt F1.out Hhb2.out hltb HY.out) | (refine Kd.R_append_step (Kd.int .i64) (w0 := w1) w.heap.size (by rfl) (.tmp 16) (.tmp 28) 25 3 (.int .i64 0) 8 rfl Try.underlying25 info_int rfl (by decide) (by omega) _ os d [.int .i64 d] (fun k => k ≠ G) (fun _ => False) rfl (by first | (go_simp; done) | (go_simp; rfl)) ?aP (fun _ hk => hk.elim) ?aF ?aO ?aB ?aS ?aL ?_; (case aP => exact rfl); (case aF => intro k hk; have hsz_ := F1.out.size; omega); (case aO => exact V1.out); (case aB => exact Below.refl _ _); (case aS => exact F1.out.size); (case aL => omega); intro v22 w22 hv _ hg_ _; have V22 := Aside0.mk hv; have B22 := Aside0.mk (Bd.grown B1.out hg_ (Kd.R_typed V1.out) (by decide) (by decide)); have F22 := Aside0.mk (Fr.grown_new F1.out hg_ (own_ge V1.out)); clear hv hg_ hxa hya; have hxa := Fr.cellAt F22.out Hha.out hlt HX.out; have hya := Fr.cellAt F22.out Hhb2.out hltb HY.out))
   go_wp2
   go_roundg (a.length - (kk + 1))
   case measure => omega
   case rel => exact ⟨kk + 1, by omega, by omega, by go_num, by rw [HS.out]; exact B22, by rw [HS.out]; exact V22, F22⟩
  ·have hltz : ¬ (kk : Int) < (a.length : Int) := by omega
   obtain rfl : kk = a.length := by omega
   go_wp2
   go_ret
   exact ⟨_, rfl, HBD.out, HV.out, HF.out⟩


-- HAND
/-! ### spec_l4Build_eq: function 96 -/
-- IMPORT Derived.StillTailTactics
set_option maxHeartbeats 16000000 in
set_option maxRecDepth 100000 in
/-- A comparison for equality that is put: its wire, and the circuit behind it. -/
theorem spec_l4Build_eq.calls (G base : Nat) (ins : Int) (ov : Value) (g : List S93) (A1 A2 : Option Addr) (c1 c2 : Nat) (a b : List Int) (w : World) (hb : base ≤ w.heap.size) (HBD : Bd 85 G base ins ov w g) (ha : (∀ W', Fr 93 G base w W' → Kd.C (Kd.int .i64) W' A1 a.length a)) (hb2 : (∀ W', Fr 93 G base w W' → Kd.C (Kd.int .i64) W' A2 b.length b)) (hi0 : 0 ≤ ins) (hi1 : ins ≤ 1000000) (hl : g.length ≤ 900000) (hal : a.length ≤ 10000) (hbl : b.length = a.length) :
  Calls Try.prog 96 #[.pointer (some ⟨G, 0, none⟩), .slice A1 a.length c1, .slice A2 b.length c2] w fun e w' => e = .returned (.int .i64 (eqN ins a b g a.length).2) ∧ Bd 85 G base ins ov w' (eqN ins a b g a.length).1 ∧ Fr 93 G base w w' := by
 have hGlt : G < w.heap.size := by obtain ⟨gv, hG, _⟩ := HBD; exact blk_lt hG
 have HBD0 := Aside0.mk HBD
 have Hha := Aside0.mk ha
 have Hhb2 := Aside0.mk hb2
 have HBL := Aside0.mk hbl
 clear HBD ha hb2 hbl
 have hu1 := Try.underlying25
 obtain ⟨g1, hg1⟩ : ∃ q, q = g ++ [(⟨1, 1, 0⟩ : S93)] := ⟨_, rfl⟩
 obtain ⟨d0, hd0⟩ : ∃ d, d = ins + (g.length : Int) := ⟨_, rfl⟩
 have hz : eqN ins a b g 0 = (g1, d0) := by rw [hg1, hd0]; rfl
 have G1 := Aside0.mk hg1
 have N0 := Aside0.mk hd0
 have HZ := Aside0.mk hz
 have L0 : g.length ≤ 1000000 := by omega
 have HF0 := Aside0.mk (Fr.refl 93 G base w)
 have tok1 : True := trivial
 clear hg1 hd0 hz
 go_enter Try.func96, Try.ntmps96
 go_wp2_with (go_at_call 92; have _t := tok1; refine (spec_l4Build_gate.calls G base ins ov g g1 1 1 0 d0 _ (Nat.le_trans hb HF0.out.size) HBD0.out hi0 hi1 L0 N0.out G1.out).mono ?_; rintro e w1 ⟨rfl, hbd, hf⟩; have B1 := Aside0.mk hbd; have F1 := Aside0.mk (HF0.out.trans hf); clear tok1 hbd hf)
 go_loopg [7, 15] a.length (fun gg so si wr => ∃ kk : Nat, kk ≤ a.length ∧ a.length - kk ≤ gg ∧ so = .int .i64 (eqN ins a b g kk).2 ∧ si = .int .i64 kk ∧ Aside0 (Bd 85 G base ins ov wr (eqN ins a b g kk).1) ∧ Aside0 (Fr 93 G base w wr))
 case atStart => exact ⟨0, Nat.zero_le _, by omega, by rw [HZ.out], rfl, by rw [HZ.out]; exact B1, F1⟩
 case round =>
  clear HBD0 HF0 B1 F1 G1 N0 HZ
  obtain ⟨kk, hkk, hg, rfl, rfl, HBD, HF⟩ := hrel
  have hlen := eqN_len ins a b g kk
  by_cases hlt : kk < a.length
  ·have hltz : (kk : Int) < (a.length : Int) := by omega
   have hs : eqN ins a b g (kk + 1) = ((eqN ins a b g kk).1 ++ [⟨5, rd a kk, rd b kk⟩] ++ [⟨2, (ins + ((eqN ins a b g kk).1.length : Int)), 0⟩] ++ [⟨3, (ins + ((eqN ins a b g kk).1.length : Int)) + 1, (eqN ins a b g kk).2⟩], (ins + ((eqN ins a b g kk).1.length : Int)) + 2) := rfl
   obtain ⟨gs, hgs⟩ : ∃ q, (eqN ins a b g kk).1 = q := ⟨_, rfl⟩
   obtain ⟨cs, hcs⟩ : ∃ q, (eqN ins a b g kk).2 = q := ⟨_, rfl⟩
   rw [hgs] at hlen
   rw [hgs, hcs] at hs
   rw [hgs] at HBD
   rw [hcs]
   clear hgs hcs
   have hgl : gs.length ≤ 970000 := by omega
   obtain ⟨d, hd⟩ : ∃ d, ins + (gs.length : Int) = d := ⟨_, rfl⟩
   rw [hd] at hs
   have hd0 : 0 ≤ d := by omega
   have hd1 : d ≤ 2000000 := by omega
   clear hlen
   obtain ⟨ad, e, hxa⟩ := Kd.at_int (Hha.out _ HF.out) (kk : Int) (by omega) hltz
   cases e
   rw [Int.toNat_natCast] at hxa
   have hltb : kk < b.length := by have := HBL.out; omega
   obtain ⟨ae, e, hya⟩ := Kd.at_int (Hhb2.out _ HF.out) (kk : Int) (by omega) (by omega)
   cases e
   rw [Int.toNat_natCast] at hya
   obtain ⟨x, hx⟩ : ∃ x, rd a kk = x := ⟨_, rfl⟩
   rw [hx] at hs hxa
   obtain ⟨y, hy⟩ : ∃ y, rd b kk = y := ⟨_, rfl⟩
   rw [hy] at hs hya
   have HX := Aside0.mk hx
   have HY := Aside0.mk hy
   clear hx hy L0
   obtain ⟨g1, hg1⟩ : ∃ q, q = gs ++ [(⟨5, x, y⟩ : S93)] := ⟨_, rfl⟩
   obtain ⟨g2, hg2⟩ : ∃ q, q = g1 ++ [(⟨2, d, 0⟩ : S93)] := ⟨_, rfl⟩
   obtain ⟨g3, hg3⟩ : ∃ q, q = g2 ++ [(⟨3, (d + 1), cs⟩ : S93)] := ⟨_, rfl⟩
   rw [← hg1, ← hg2, ← hg3] at hs
   have n1 : (g1.length : Int) = gs.length + 1 := by rw [hg1]; simp; try omega
   have n2 : (g2.length : Int) = gs.length + 2 := by rw [hg2]; simp; try omega
   have N0 := Aside0.mk (show d = ins + (gs.length : Int) by omega)
   have L0 : gs.length ≤ 1000000 := by omega
   have N1 := Aside0.mk (show (d + 1) = ins + (g1.length : Int) by omega)
   have L1 : g1.length ≤ 1000000 := by omega
   have N2 := Aside0.mk (show (d + 2) = ins + (g2.length : Int) by omega)
   have L2 : g2.length ≤ 1000000 := by omega
   have G1 := Aside0.mk hg1
   have tok1 : True := trivial
   have G2 := Aside0.mk hg2
   have tok2 : True := trivial
   have G3 := Aside0.mk hg3
   have tok3 : True := trivial
   have HS := Aside0.mk hs
   clear hs hd hg1 hg2 hg3 n1 n2
   clear hgl
   go_wp2
   go_still_tail 9, (by kernel_rfl)
   change wpList _ _ _ _ _ wr.drew
   have BD1 := Aside0.mk (HBD.out.drew)
   have FD1 := Aside0.mk (HF.out.drew)
   clear hxa hya
   generalize wr.drew = W1 at BD1 FD1 ⊢
   have hxa := Fr.cellAt FD1.out Hha.out hlt HX.out
   have hya := Fr.cellAt FD1.out Hhb2.out hltb HY.out
   go_wp2_with (first
     | (go_at_call 92; have _t := tok1; refine (spec_l4Build_gate.calls G base ins ov gs g1 5 x y d _ (Nat.le_trans hb FD1.out.size) BD1.out hi0 hi1 L0 N0.out G1.out).mono ?_; rintro e w1 ⟨rfl, hbd, hf⟩; have B1 := Aside0.mk hbd; have F1 := Aside0.mk (FD1.out.trans hf); clear tok1 hbd hf hxa hya; have hxa := Fr.cellAt F1.out Hha.out hlt HX.out; have hya := Fr.cellAt F1.out Hhb2.out hltb HY.out)
     | (go_at_call 92; have _t := tok2; refine (spec_l4Build_gate.calls G base ins ov g1 g2 2 d 0 (d + 1) _ (Nat.le_trans hb F1.out.size) B1.out hi0 hi1 L1 N1.out G2.out).mono ?_; rintro e w2 ⟨rfl, hbd, hf⟩; have B2 := Aside0.mk hbd; have F2 := Aside0.mk (F1.out.trans hf); clear tok2 hbd hf hxa hya; have hxa := Fr.cellAt F2.out Hha.out hlt HX.out; have hya := Fr.cellAt F2.out Hhb2.out hltb HY.out)
     | (go_at_call 92; have _t := tok3; refine (spec_l4Build_gate.calls G base ins ov g2 g3 3 (d + 1) cs (d + 2) _ (Nat.le_trans hb F2.out.size) B2.out hi0 hi1 L2 N2.out G3.out).mono ?_; rintro e w3 ⟨rfl, hbd, hf⟩; have B3 := Aside0.mk hbd; have F3 := Aside0.mk (F2.out.trans hf); clear tok3 hbd hf hxa hya; have hxa := Fr.cellAt F3.out Hha.out hlt HX.out; have hya := Fr.cellAt F3.out Hhb2.out hltb HY.out))
   go_roundg (a.length - (kk + 1))
   case measure => omega
   case rel => exact ⟨kk + 1, by omega, by omega, by rw [HS.out], by go_num, by rw [HS.out]; exact B3, F3⟩
  ·have hltz : ¬ (kk : Int) < (a.length : Int) := by omega
   obtain rfl : kk = a.length := by omega
   go_wp2
   go_ret
   exact ⟨rfl, HBD.out, HF.out⟩


-- HAND
/-! ### spec_l4Build_less: function 97 -/
-- IMPORT Derived.StillTailTactics
set_option maxHeartbeats 16000000 in
set_option maxRecDepth 100000 in
/-- A comparison that is put: its wire, and the circuit behind it. -/
theorem spec_l4Build_less.calls (G base : Nat) (ins : Int) (ov : Value) (g : List S93) (A1 A2 : Option Addr) (c1 c2 : Nat) (a b : List Int) (w : World) (hb : base ≤ w.heap.size) (HBD : Bd 85 G base ins ov w g) (ha : (∀ W', Fr 93 G base w W' → Kd.C (Kd.int .i64) W' A1 a.length a)) (hb2 : (∀ W', Fr 93 G base w W' → Kd.C (Kd.int .i64) W' A2 b.length b)) (hi0 : 0 ≤ ins) (hi1 : ins ≤ 1000000) (hl : g.length ≤ 900000) (hal : a.length ≤ 10000) (hbl : b.length = a.length) :
  Calls Try.prog 97 #[.pointer (some ⟨G, 0, none⟩), .slice A1 a.length c1, .slice A2 b.length c2] w fun e w' => e = .returned (.int .i64 (lessN ins a b g a.length).2) ∧ Bd 85 G base ins ov w' (lessN ins a b g a.length).1 ∧ Fr 93 G base w w' := by
 have hGlt : G < w.heap.size := by obtain ⟨gv, hG, _⟩ := HBD; exact blk_lt hG
 have HBD0 := Aside0.mk HBD
 have Hha := Aside0.mk ha
 have Hhb2 := Aside0.mk hb2
 have HBL := Aside0.mk hbl
 clear HBD ha hb2 hbl
 have hu1 := Try.underlying25
 obtain ⟨g1, hg1⟩ : ∃ q, q = g ++ [(⟨1, 0, 0⟩ : S93)] := ⟨_, rfl⟩
 obtain ⟨d0, hd0⟩ : ∃ d, d = ins + (g.length : Int) := ⟨_, rfl⟩
 have hz : lessN ins a b g 0 = (g1, d0) := by rw [hg1, hd0]; rfl
 have G1 := Aside0.mk hg1
 have N0 := Aside0.mk hd0
 have HZ := Aside0.mk hz
 have L0 : g.length ≤ 1000000 := by omega
 have HF0 := Aside0.mk (Fr.refl 93 G base w)
 have tok1 : True := trivial
 clear hg1 hd0 hz
 go_enter Try.func97, Try.ntmps97
 go_wp2_with (go_at_call 92; have _t := tok1; refine (spec_l4Build_gate.calls G base ins ov g g1 1 0 0 d0 _ (Nat.le_trans hb HF0.out.size) HBD0.out hi0 hi1 L0 N0.out G1.out).mono ?_; rintro e w1 ⟨rfl, hbd, hf⟩; have B1 := Aside0.mk hbd; have F1 := Aside0.mk (HF0.out.trans hf); clear tok1 hbd hf)
 go_loopg [7, 18] a.length (fun gg so si wr => ∃ kk : Nat, kk ≤ a.length ∧ a.length - kk ≤ gg ∧ so = .int .i64 (lessN ins a b g kk).2 ∧ si = .int .i64 kk ∧ Aside0 (Bd 85 G base ins ov wr (lessN ins a b g kk).1) ∧ Aside0 (Fr 93 G base w wr))
 case atStart => exact ⟨0, Nat.zero_le _, by omega, by rw [HZ.out], rfl, by rw [HZ.out]; exact B1, F1⟩
 case round =>
  clear HBD0 HF0 B1 F1 G1 N0 HZ
  obtain ⟨kk, hkk, hg, rfl, rfl, HBD, HF⟩ := hrel
  have hlen := lessN_len ins a b g kk
  by_cases hlt : kk < a.length
  ·have hltz : (kk : Int) < (a.length : Int) := by omega
   have hs : lessN ins a b g (kk + 1) = ((lessN ins a b g kk).1 ++ [⟨5, rd a kk, rd b kk⟩] ++ [⟨2, (ins + ((lessN ins a b g kk).1.length : Int)), 0⟩] ++ [⟨3, (ins + ((lessN ins a b g kk).1.length : Int)) + 1, (lessN ins a b g kk).2⟩] ++ [⟨2, rd a kk, 0⟩] ++ [⟨3, (ins + ((lessN ins a b g kk).1.length : Int)) + 3, rd b kk⟩] ++ [⟨4, (ins + ((lessN ins a b g kk).1.length : Int)) + 2, (ins + ((lessN ins a b g kk).1.length : Int)) + 4⟩], (ins + ((lessN ins a b g kk).1.length : Int)) + 5) := rfl
   obtain ⟨gs, hgs⟩ : ∃ q, (lessN ins a b g kk).1 = q := ⟨_, rfl⟩
   obtain ⟨cs, hcs⟩ : ∃ q, (lessN ins a b g kk).2 = q := ⟨_, rfl⟩
   rw [hgs] at hlen
   rw [hgs, hcs] at hs
   rw [hgs] at HBD
   rw [hcs]
   clear hgs hcs
   have hgl : gs.length ≤ 970000 := by omega
   obtain ⟨d, hd⟩ : ∃ d, ins + (gs.length : Int) = d := ⟨_, rfl⟩
   rw [hd] at hs
   have hd0 : 0 ≤ d := by omega
   have hd1 : d ≤ 2000000 := by omega
   clear hlen
   obtain ⟨ad, e, hxa⟩ := Kd.at_int (Hha.out _ HF.out) (kk : Int) (by omega) hltz
   cases e
   rw [Int.toNat_natCast] at hxa
   have hltb : kk < b.length := by have := HBL.out; omega
   obtain ⟨ae, e, hya⟩ := Kd.at_int (Hhb2.out _ HF.out) (kk : Int) (by omega) (by omega)
   cases e
   rw [Int.toNat_natCast] at hya
   obtain ⟨x, hx⟩ : ∃ x, rd a kk = x := ⟨_, rfl⟩
   rw [hx] at hs hxa
   obtain ⟨y, hy⟩ : ∃ y, rd b kk = y := ⟨_, rfl⟩
   rw [hy] at hs hya
   have HX := Aside0.mk hx
   have HY := Aside0.mk hy
   clear hx hy L0
   obtain ⟨g1, hg1⟩ : ∃ q, q = gs ++ [(⟨5, x, y⟩ : S93)] := ⟨_, rfl⟩
   obtain ⟨g2, hg2⟩ : ∃ q, q = g1 ++ [(⟨2, d, 0⟩ : S93)] := ⟨_, rfl⟩
   obtain ⟨g3, hg3⟩ : ∃ q, q = g2 ++ [(⟨3, (d + 1), cs⟩ : S93)] := ⟨_, rfl⟩
   obtain ⟨g4, hg4⟩ : ∃ q, q = g3 ++ [(⟨2, x, 0⟩ : S93)] := ⟨_, rfl⟩
   obtain ⟨g5, hg5⟩ : ∃ q, q = g4 ++ [(⟨3, (d + 3), y⟩ : S93)] := ⟨_, rfl⟩
   obtain ⟨g6, hg6⟩ : ∃ q, q = g5 ++ [(⟨4, (d + 2), (d + 4)⟩ : S93)] := ⟨_, rfl⟩
   rw [← hg1, ← hg2, ← hg3, ← hg4, ← hg5, ← hg6] at hs
   have n1 : (g1.length : Int) = gs.length + 1 := by rw [hg1]; simp; try omega
   have n2 : (g2.length : Int) = gs.length + 2 := by rw [hg2]; simp; try omega
   have n3 : (g3.length : Int) = gs.length + 3 := by rw [hg3]; simp; try omega
   have n4 : (g4.length : Int) = gs.length + 4 := by rw [hg4]; simp; try omega
   have n5 : (g5.length : Int) = gs.length + 5 := by rw [hg5]; simp; try omega
   have N0 := Aside0.mk (show d = ins + (gs.length : Int) by omega)
   have L0 : gs.length ≤ 1000000 := by omega
   have N1 := Aside0.mk (show (d + 1) = ins + (g1.length : Int) by omega)
   have L1 : g1.length ≤ 1000000 := by omega
   have N2 := Aside0.mk (show (d + 2) = ins + (g2.length : Int) by omega)
   have L2 : g2.length ≤ 1000000 := by omega
   have N3 := Aside0.mk (show (d + 3) = ins + (g3.length : Int) by omega)
   have L3 : g3.length ≤ 1000000 := by omega
   have N4 := Aside0.mk (show (d + 4) = ins + (g4.length : Int) by omega)
   have L4 : g4.length ≤ 1000000 := by omega
   have N5 := Aside0.mk (show (d + 5) = ins + (g5.length : Int) by omega)
   have L5 : g5.length ≤ 1000000 := by omega
   have G1 := Aside0.mk hg1
   have tok1 : True := trivial
   have G2 := Aside0.mk hg2
   have tok2 : True := trivial
   have G3 := Aside0.mk hg3
   have tok3 : True := trivial
   have G4 := Aside0.mk hg4
   have tok4 : True := trivial
   have G5 := Aside0.mk hg5
   have tok5 : True := trivial
   have G6 := Aside0.mk hg6
   have tok6 : True := trivial
   have HS := Aside0.mk hs
   clear hs hd hg1 hg2 hg3 hg4 hg5 hg6 n1 n2 n3 n4 n5
   clear hgl
   go_wp2
   go_still_tail 9, (by kernel_rfl)
   change wpList _ _ _ _ _ wr.drew
   have BD1 := Aside0.mk (HBD.out.drew)
   have FD1 := Aside0.mk (HF.out.drew)
   clear hxa hya
   generalize wr.drew = W1 at BD1 FD1 ⊢
   have hxa := Fr.cellAt FD1.out Hha.out hlt HX.out
   have hya := Fr.cellAt FD1.out Hhb2.out hltb HY.out
   go_wp2_with (first
     | (go_at_call 92; have _t := tok1; refine (spec_l4Build_gate.calls G base ins ov gs g1 5 x y d _ (Nat.le_trans hb FD1.out.size) BD1.out hi0 hi1 L0 N0.out G1.out).mono ?_; rintro e w1 ⟨rfl, hbd, hf⟩; have B1 := Aside0.mk hbd; have F1 := Aside0.mk (FD1.out.trans hf); clear tok1 hbd hf hxa hya; have hxa := Fr.cellAt F1.out Hha.out hlt HX.out; have hya := Fr.cellAt F1.out Hhb2.out hltb HY.out)
     | (go_at_call 92; have _t := tok2; refine (spec_l4Build_gate.calls G base ins ov g1 g2 2 d 0 (d + 1) _ (Nat.le_trans hb F1.out.size) B1.out hi0 hi1 L1 N1.out G2.out).mono ?_; rintro e w2 ⟨rfl, hbd, hf⟩; have B2 := Aside0.mk hbd; have F2 := Aside0.mk (F1.out.trans hf); clear tok2 hbd hf hxa hya; have hxa := Fr.cellAt F2.out Hha.out hlt HX.out; have hya := Fr.cellAt F2.out Hhb2.out hltb HY.out)
     | (go_at_call 92; have _t := tok3; refine (spec_l4Build_gate.calls G base ins ov g2 g3 3 (d + 1) cs (d + 2) _ (Nat.le_trans hb F2.out.size) B2.out hi0 hi1 L2 N2.out G3.out).mono ?_; rintro e w3 ⟨rfl, hbd, hf⟩; have B3 := Aside0.mk hbd; have F3 := Aside0.mk (F2.out.trans hf); clear tok3 hbd hf hxa hya; have hxa := Fr.cellAt F3.out Hha.out hlt HX.out; have hya := Fr.cellAt F3.out Hhb2.out hltb HY.out)
     | (go_at_call 92; have _t := tok4; refine (spec_l4Build_gate.calls G base ins ov g3 g4 2 x 0 (d + 3) _ (Nat.le_trans hb F3.out.size) B3.out hi0 hi1 L3 N3.out G4.out).mono ?_; rintro e w4 ⟨rfl, hbd, hf⟩; have B4 := Aside0.mk hbd; have F4 := Aside0.mk (F3.out.trans hf); clear tok4 hbd hf hxa hya; have hxa := Fr.cellAt F4.out Hha.out hlt HX.out; have hya := Fr.cellAt F4.out Hhb2.out hltb HY.out)
     | (go_at_call 92; have _t := tok5; refine (spec_l4Build_gate.calls G base ins ov g4 g5 3 (d + 3) y (d + 4) _ (Nat.le_trans hb F4.out.size) B4.out hi0 hi1 L4 N4.out G5.out).mono ?_; rintro e w5 ⟨rfl, hbd, hf⟩; have B5 := Aside0.mk hbd; have F5 := Aside0.mk (F4.out.trans hf); clear tok5 hbd hf hxa hya; have hxa := Fr.cellAt F5.out Hha.out hlt HX.out; have hya := Fr.cellAt F5.out Hhb2.out hltb HY.out)
     | (go_at_call 92; have _t := tok6; refine (spec_l4Build_gate.calls G base ins ov g5 g6 4 (d + 2) (d + 4) (d + 5) _ (Nat.le_trans hb F5.out.size) B5.out hi0 hi1 L5 N5.out G6.out).mono ?_; rintro e w6 ⟨rfl, hbd, hf⟩; have B6 := Aside0.mk hbd; have F6 := Aside0.mk (F5.out.trans hf); clear tok6 hbd hf hxa hya; have hxa := Fr.cellAt F6.out Hha.out hlt HX.out; have hya := Fr.cellAt F6.out Hhb2.out hltb HY.out))
   go_roundg (a.length - (kk + 1))
   case measure => omega
   case rel => exact ⟨kk + 1, by omega, by omega, by rw [HS.out], by go_num, by rw [HS.out]; exact B6, F6⟩
  ·have hltz : ¬ (kk : Int) < (a.length : Int) := by omega
   obtain rfl : kk = a.length := by omega
   go_wp2
   go_ret
   exact ⟨rfl, HBD.out, HF.out⟩


/-! ### spec_l1Own: function 98 -/
def spec_l1Own.f (l0 : List Int) : Option (List Int) := (some (([] : List Int) : List Int)).bind fun y131 => (if y131.length + l0.length < 17592186044416 then (some (y131 ++ l0)) else (none))
set_option maxHeartbeats 8000000 in
set_option maxRecDepth 100000 in
theorem spec_l1Own.calls (A0 : Option Addr) (c0 : Nat) (l0 : List Int) (r : List Int) (w : World) (hr0 : Kd.C (Kd.int .i64) w A0 l0.length l0) (hc0 : l0.length ≤ c0) (h : spec_l1Own.f l0 = some r) :
  Calls Try.prog 98 #[.slice A0 l0.length c0] w fun e w' => ∃ v0_ : Value, e = .returned (v0_) ∧ Kd.R (Kd.int .i64) 3 w' w.heap.size (fun _ => True) v0_ r ∧ Below w.heap.size w w' := by
 have HR0 := Aside0.mk hr0
 have HC0 := Aside0.mk hc0
 clear hr0 hc0
 have HB := Aside0.mk (Below.refl w.heap.size w)
 have H : ((some (([] : List Int) : List Int)).bind fun y131 => (if y131.length + l0.length < 17592186044416 then (some (y131 ++ l0)) else (none))) = some r := h
 clear h
 obtain ⟨y131, hy131⟩ : ∃ y_ : List Int, y_ = (([] : List Int)) := ⟨_, rfl⟩
 replace H : (if y131.length + l0.length < 17592186044416 then (some (y131 ++ l0)) else (none)) = some r := qY hy131 H
 have Ny131 := Aside0.mk hy131
 clear hy131
 by_cases c2 : y131.length + l0.length < 17592186044416
 ·rw [if_pos c2] at H
  have LMc2 := Aside0.mk c2
  clear c2
  obtain ⟨y134, hy134⟩ : ∃ y_ : List Int, y_ = (y131 ++ l0) := ⟨_, rfl⟩
  replace H : (some y134) = some r := qY hy134 H
  have Ny134 := Aside0.mk hy134
  clear hy134
  obtain rfl := Option.some.inj H
  go_enter Try.func98, Try.ntmps98
  go_wp2_with (first | ((with_reducible refine gate_dst (N := 3) rfl ?_); refine Kd.R_lit (Kd.int .i64) _ 3 ?hg (N := 3) ?hd (xs := ([] : List Int)) (inner := []) (ok := fun _ => True) (okp := fun _ => True) ?hr ?hp (fun _ hk => hk) trivial (Below.refl _ _) (Nat.le_refl _) (by simp) ?_; (case hd => rfl); (case hg => rfl); (case hr => first | (go_simp; done) | (go_simp; rfl)); (case hp => exact (Reps.none _ _)); intro v132 w3 ho4 hb hg_ hnew_; clear hg_ hnew_; (first | rw [← Ny131.out] at ho4 | (simp only [Int.reduceToNat] at ho4; rw [← Ny131.out] at ho4)); have n0_ := Aside0.mk (Kd.R_lower ho4 (below_size (qB))); have n1_ := Aside0.mk (below_step (qB) hb); clear HB; have HO133 := n0_; have HB := n1_; clear n0_ n1_; clear hb ho4) | ((with_reducible refine gate_builtin (b := .append) (xs := #[.tmp 3, .tmp 4]) rfl ?_); at_builtin; refine Kd.R_append_rows (Kd.int .i64) (w0 := w) w.heap.size rfl (.tmp 3) (.tmp 4) 25 3 (.int .i64 0) 8 rfl Try.underlying25 info3 rfl (by decide) (by omega) v132 y131 l0 _ _ _ (fun _ => True) (fun _ => False) rfl rfl ?aO ?aR (fun _ _ h => h) (fun _ h => h.elim) ?aF ?aB ?aS ?aL ?_; (case aR => exact qC (Kd.C_below HR0.out HB.out)); (case aB => exact (qB)); (case aF => exact (fun _ _ => trivial)); (case aO => exact (qR HO133.out)); (case aS => exact (below_size (qB))); (case aL => have := LMc2.out; omega); intro v135 w5 ho hb hg hat; rw [← Ny134.out] at ho; have n0_ := Aside0.mk (hb); have n1_ := Aside0.mk (ho); clear HB; clear HO133; have HB := n0_; have HO136 := n1_; clear n0_ n1_; clear ho hb hg hat))
  go_ret
  exact ⟨_, qE, qR HO136.out, qB⟩
 ·rw [if_neg c2] at H
  exact absurd H (by simp)


-- HAND
/-! ### bd_gatesw.lean -/
/-- The wires of a variable. -/
def varW (wide : Nat) (n : Int) : Nat → List Int
 | 0 => []
 | k + 1 => varW wide n k ++ [n * wide + k]
theorem varW_len (wide : Nat) (n : Int) : ∀ k, (varW wide n k).length = k
 | 0 => rfl
 | k + 1 => by simp [varW, varW_len wide n k]
def twoOp (op : Int) : Bool := op == 3 || op == 4 || op == 5 || op == 8 || op == 9 || op == 10 || op == 14 || op == 15 || op == 16 || op == 17 || op == 18
/-- What a node does: the gates that it puts, the wires on the stack. -/
def gstep (wide : Nat) (ins : Int) (x : S63) (g : List S93) (st : List (List Int)) : Option (List S93 × List (List Int)) :=
 if 700000 < g.length ∨ 1000 < st.length then none
 else if x.f0 = 2 then (if 0 ≤ x.f1 ∧ x.f1 ≤ 1000 then some (g, st ++ [varW wide x.f1 wide]) else none)
 else if x.f0 = 1 then (if 0 ≤ x.f1 ∧ x.f1 < 18446744073709551616 then some ((emitN ins (fun i => ⟨1, bitv x.f1 i, 0⟩) g wide).1, st ++ [(emitN ins (fun i => ⟨1, bitv x.f1 i, 0⟩) g wide).2]) else none)
 else if x.f0 = 20 then (if 0 ≤ x.f1 ∧ x.f1 < 18446744073709551616 then some ((emitN ins (fun i => ⟨1, bitv x.f1 i, 0⟩) g 1).1, st ++ [(emitN ins (fun i => ⟨1, bitv x.f1 i, 0⟩) g 1).2]) else none)
 else if x.f0 = 13 ∨ x.f0 = 19 then
  match st.reverse with
  | a :: r => if a.length ≤ 4 then some ((emitN ins (fun i => ⟨2, rd a i, 0⟩) g a.length).1, r.reverse ++ [(emitN ins (fun i => ⟨2, rd a i, 0⟩) g a.length).2]) else none
  | [] => none
 else if twoOp x.f0 = true then
  match st.reverse with
  | b :: a :: r => if b.length = a.length ∧ 1 ≤ a.length ∧ a.length ≤ 4 then some ((twoN ins x.f0 a b g).1, r.reverse ++ [(twoN ins x.f0 a b g).2]) else none
  | _ => none
 else none
def gfold (wide : Nat) (ins : Int) : List S63 → List S93 × List (List Int) → Option (List S93 × List (List Int))
 | [], s => some s
 | x :: t, s => (gstep wide ins x s.1 s.2).bind (gfold wide ins t)
theorem gstep_cases {wide : Nat} {ins : Int} {x : S63} {g : List S93} {st : List (List Int)} {s : List S93 × List (List Int)} (h : gstep wide ins x g st = some s) :
  (g.length ≤ 700000 ∧ st.length ≤ 1000) ∧
  ((x.f0 = 2 ∧ 0 ≤ x.f1 ∧ x.f1 ≤ 1000 ∧ s = (g, st ++ [varW wide x.f1 wide])) ∨
     (x.f0 = 1 ∧ 0 ≤ x.f1 ∧ x.f1 < 18446744073709551616 ∧ s = ((emitN ins (fun i => ⟨1, bitv x.f1 i, 0⟩) g wide).1, st ++ [(emitN ins (fun i => ⟨1, bitv x.f1 i, 0⟩) g wide).2])) ∨
     (x.f0 = 20 ∧ 0 ≤ x.f1 ∧ x.f1 < 18446744073709551616 ∧ s = ((emitN ins (fun i => ⟨1, bitv x.f1 i, 0⟩) g 1).1, st ++ [(emitN ins (fun i => ⟨1, bitv x.f1 i, 0⟩) g 1).2])) ∨
     ((x.f0 = 13 ∨ x.f0 = 19) ∧ ∃ r a, st = r ++ [a] ∧ a.length ≤ 4 ∧ s = ((emitN ins (fun i => ⟨2, rd a i, 0⟩) g a.length).1, r ++ [(emitN ins (fun i => ⟨2, rd a i, 0⟩) g a.length).2])) ∨
     (twoOp x.f0 = true ∧ ∃ r a b, st = r ++ [a, b] ∧ b.length = a.length ∧ 1 ≤ a.length ∧ a.length ≤ 4 ∧ s = ((twoN ins x.f0 a b g).1, r ++ [(twoN ins x.f0 a b g).2]))) := by
 unfold gstep at h
 split at h
 ·cases h
 rename_i hg
 refine ⟨by omega, ?_⟩
 split at h
 ·rename_i h2
  split at h
  ·rename_i h3; injection h with h; exact .inl ⟨h2, h3.1, h3.2, h.symm⟩
  ·cases h
 split at h
 ·rename_i h2
  split at h
  ·rename_i h3; injection h with h; exact .inr (.inl ⟨h2, h3.1, h3.2, h.symm⟩)
  ·cases h
 split at h
 ·rename_i h2
  split at h
  ·rename_i h3; injection h with h; exact .inr (.inr (.inl ⟨h2, h3.1, h3.2, h.symm⟩))
  ·cases h
 split at h
 ·rename_i h2
  split at h
  ·rename_i a r hr
   split at h
   ·rename_i h3; injection h with h
    refine .inr (.inr (.inr (.inl ⟨h2, r.reverse, a, ?_, h3, h.symm⟩)))
    rw [← List.reverse_reverse st, hr, List.reverse_cons]
   ·cases h
  ·cases h
 split at h
 ·rename_i h2
  split at h
  ·rename_i b a r hr
   split at h
   ·rename_i h3; injection h with h
    refine .inr (.inr (.inr (.inr ⟨h2, r.reverse, a, b, ?_, h3.1, h3.2.1, h3.2.2, h.symm⟩)))
    rw [← List.reverse_reverse st, hr, List.reverse_cons, List.reverse_cons, List.append_assoc]
    rfl
   ·cases h
  ·cases h
 ·cases h
/-- A row of rows: an element, with its own row. -/
theorem R_rowAt {α : Type} {d : Kd α} {e1 e2 b n cap : Nat} {ok : Nat → Prop} {W : World} {A : Option Addr} {xs : List (List α)} (h : (Kd.slice e2 d).R e1 W b ok (.slice A n cap) xs) (i : Nat) (hi : i < xs.length) :
  ∃ ad A0 c0, A = some ad ∧ W.cell? (ad.add i) = some (.slice A0 (xs[i]).length c0) ∧ (xs[i]).length ≤ c0 ∧ d.R e2 W b ok (.slice A0 (xs[i]).length c0) xs[i] := by
 have hn := (Kd.R_reads' h).1
 cases A with
 | none =>
  have := (Kd.R_reads' h).2.2.2.2 (by omega)
  obtain ⟨ad, e, _⟩ := this
  cases e
 | some ad =>
  obtain ⟨c, hcl, hM, hcc⟩ := Kd.R_getA h ([] : List α) (i : Int) (by omega) (by omega)
  obtain ⟨v, rfl, hv⟩ := hM
  have hx : xs.getD (i : Int).toNat [] = xs[i] := by rw [Int.toNat_natCast, List.getD_eq_getElem?_getD, List.getElem?_eq_getElem hi]; rfl
  rw [hx] at hv
  obtain ⟨A0, c0, rfl⟩ := Kd.R_slice hv
  have h0 := hcc 0 _ rfl
  rw [Int.toNat_natCast, show (Kd.slice e2 d).sz = 1 from rfl, Nat.mul_one, Nat.add_zero] at h0
  exact ⟨ad, A0, c0, rfl, h0, (Kd.R_reads' hv).2.1, Kd.R_mono hv (fun _ hk => hk.1)⟩
theorem R_freshL (d : Kd (List Int)) (W : World) (e : Nat) (ok : Nat → Prop) (hs : d.sz = 1) (hk : ok W.heap.size) : d.R e (W.alloc (.cells #[] e)) W.heap.size ok (.slice (some ⟨W.heap.size, 0, none⟩) 0 0) [] :=
 ⟨fun k h => by
  have h2 : W.heap.size = k := by simpa [Value.ownBlock] using h
  rw [← h2]; exact hk, [], by rw [hs]; exact own_lit W W.heap.size e .i64 [] (Nat.le_refl _) (by simp), Reps.none _ _⟩
theorem R_setL {W : World} {g n cap e e2 b : Nat} {ok okp : Nat → Prop} {xs : List (List Int)} (h : Kd.R (Kd.slice e2 (Kd.int .i64)) e W b ok (.slice (some ⟨g, 0, none⟩) n cap) xs) (i : Nat) (hi : i < n) {v : Value} {x : List Int}
  (hx : Kd.R (Kd.int .i64) e2 W b okp v x) (hokp : ∀ k, okp k → ok k ∧ k ≠ g) :
  Kd.R (Kd.slice e2 (Kd.int .i64)) e (W.setCell ⟨g, i, none⟩ v) b ok (.slice (some ⟨g, 0, none⟩) n cap) (xs.set i x) ∧ W.grownBy (W.setCell ⟨g, i, none⟩ v) (some g) := by
 obtain ⟨c, hcl, hM, hcc, _⟩ := Kd.R_elem h ([] : List Int) (i : Int) (by omega) (by omega)
 obtain ⟨v0, rfl, _⟩ := hM
 obtain ⟨Av, cv, rfl⟩ := Kd.R_slice hx
 have h2 := Kd.R_seg h (i : Int) (by omega) (by omega) (c := [v0]) (seg := [.slice Av x.length cv]) (j := 0) hcl (fun j u hu => hcc j u hu) (by show 0 + 1 ≤ 1; omega) (x' := x) (okp := okp) ⟨_, rfl, hx⟩ hokp
 have e1 : (i : Int).toNat * (Kd.slice e2 (Kd.int .i64)).sz + 0 = i := by simp [Kd.slice]
 rw [e1, Int.toNat_natCast] at h2
 exact h2
theorem R_placeL {W : World} {g n cap e e2 b : Nat} {ok : Nat → Prop} {xs : List (List Int)} (h : Kd.R (Kd.slice e2 (Kd.int .i64)) e W b ok (.slice (some ⟨g, 0, none⟩) n cap) xs) (i : Nat) (hi : i < n) : (∃ A m c, W.cell? ⟨g, i, none⟩ = some (.slice A m c)) ∧ W.frozen? ⟨g, i, none⟩ = false := by
 obtain ⟨c, hcl, hM, hcc, hfr⟩ := Kd.R_elem h ([] : List Int) (i : Int) (by omega) (by omega)
 obtain ⟨v0, rfl, hv⟩ := hM
 obtain ⟨Av, cv, rfl⟩ := Kd.R_slice hv
 have e1 : (i : Int).toNat * (Kd.slice e2 (Kd.int .i64)).sz + 0 = i := by simp [Kd.slice]
 have hf := hfr 0
 have hc := hcc 0 _ rfl
 rw [e1] at hf
 rw [show (i : Int).toNat * (Kd.slice e2 (Kd.int .i64)).sz + 0 = i from e1] at hc
 exact ⟨⟨_, _, _, hc⟩, hf⟩
theorem info_ints : (Try.prog.info? 25).map (fun i => (i.zero, i.size, i.bytes)) = some (some (.slice none 0 0), 1, 24) := by kernel_rfl
theorem blk_fr {tG G base k t : Nat} {w w1 : World} {c : Array Value} (hk : w.heap[k]? = some (.cells c t (0, 0))) (hf : Fr tG G base w w1) (hG : k ≠ G) (ht : t ≠ tG) : w1.heap[k]? = some (.cells c t (0, 0)) := hf.blk hk hG ht
/-- A cell's block behind an append to a row of another type. -/
theorem blk_typed {k t t' : Nat} {w w1 : World} {c : Array Value} {row : Option Nat} (hk : w.heap[k]? = some (.cells c t (0, 0))) (hg : w.grownBy w1 row) (hr : ∀ j, row = some j → ∃ c', w.heap[j]? = some (.cells c' t' (0, 0))) (ht : t ≠ t') : w1.heap[k]? = some (.cells c t (0, 0)) :=
 blk_grown hk hg (fun he => by
  obtain ⟨c', hc'⟩ := hr k he.symm
  rw [hk] at hc'
  injection hc' with hc'
  injection hc' with _ hc'
  exact ht hc')
theorem gfold_at {wide : Nat} {ins : Int} {l : List S63} {kk : Nat} {s fin : List S93 × List (List Int)} (h : gfold wide ins (l.drop kk) s = some fin) (hk : kk < l.length) : ∃ s1, gstep wide ins (rd_T63 l kk) s.1 s.2 = some s1 ∧ gfold wide ins (l.drop (kk + 1)) s1 = some fin := by
 rw [List.drop_eq_getElem_cons hk] at h
 obtain ⟨s1, h1, h2⟩ := Option.bind_eq_some_iff.mp h
 refine ⟨s1, ?_, h2⟩
 have e : rd_T63 l (kk : Int) = l[kk] := by unfold rd_T63; rw [Int.toNat_natCast, List.getD_eq_getElem?_getD, List.getElem?_eq_getElem hk]; rfl
 rw [e]; exact h1
theorem R_rowLast {α : Type} {d : Kd α} {e1 e2 b g n cap : Nat} {ok : Nat → Prop} {W : World} {r : List (List α)} {a : List α} (h : (Kd.slice e2 d).R e1 W b ok (.slice (some ⟨g, 0, none⟩) n cap) (r ++ [a])) :
  ∃ A0 c0, W.cell? ⟨g, r.length, none⟩ = some (.slice A0 a.length c0) ∧ a.length ≤ c0 ∧ d.R e2 W b ok (.slice A0 a.length c0) a := by
 obtain ⟨ad, A0, c0, e, hc, hl, hR⟩ := R_rowAt h r.length (by simp)
 cases e
 have hx : (r ++ [a])[r.length]'(by simp) = a := by simp
 rw [hx] at hc hl hR
 rw [add_plain] at hc
 exact ⟨A0, c0, hc, hl, hR⟩
theorem R_rowLast2 {α : Type} {d : Kd α} {e1 e2 b g n cap : Nat} {ok : Nat → Prop} {W : World} {r : List (List α)} {a a2 : List α} (h : (Kd.slice e2 d).R e1 W b ok (.slice (some ⟨g, 0, none⟩) n cap) (r ++ [a, a2])) :
  ∃ A0 c0 A1 c1, W.cell? ⟨g, r.length, none⟩ = some (.slice A0 a.length c0) ∧ a.length ≤ c0 ∧ d.R e2 W b ok (.slice A0 a.length c0) a ∧ W.cell? ⟨g, r.length + 1, none⟩ = some (.slice A1 a2.length c1) ∧ a2.length ≤ c1 ∧ d.R e2 W b ok (.slice A1 a2.length c1) a2 := by
 obtain ⟨ad, A0, c0, e, hc, hl, hR⟩ := R_rowAt h r.length (by simp)
 cases e
 obtain ⟨ad, A1, c1, e, hc1, hl1, hR1⟩ := R_rowAt h (r.length + 1) (by simp)
 cases e
 have hx : (r ++ [a, a2])[r.length]'(by simp) = a := by simp
 have hx1 : (r ++ [a, a2])[r.length + 1]'(by simp) = a2 := by simp
 rw [hx] at hc hl hR
 rw [hx1] at hc1 hl1 hR1
 rw [add_plain] at hc hc1
 exact ⟨A0, c0, A1, c1, hc, hl, hR, hc1, hl1, hR1⟩
theorem twoOp_ne {op : Int} (h : twoOp op = true) : op ≠ 1 ∧ op ≠ 2 ∧ op ≠ 13 ∧ op ≠ 19 ∧ op ≠ 20 := by
 unfold twoOp at h
 simp only [Bool.or_eq_true, beq_iff_eq] at h
 omega
/-- The circuit of an expression: its inputs, its gates, its result's wires. -/
def gatesOf (a0 : Int) (a1 : Int) (l2 : List S63) : Option (Int × List S93 × List Int) :=
 if 1 ≤ a0 ∧ a0 ≤ 4 ∧ 0 ≤ a1 ∧ a1 ≤ 4 ∧ l2.length ≤ 48 then (gfold a0.toNat (a0 * a1) l2 ([], [])).bind fun s => match s.2 with
  | o :: _ => if o.length ≤ 1000 then some (a0 * a1, s.1, o) else none
  | [] => none else none
theorem gatesFor_open {a0 a1 : Int} {l2 : List S63} {r1 : Int} {r2 : List S93} {r3 : List Int} (h : gatesOf a0 a1 l2 = some (r1, r2, r3)) :
  ∃ (wd : Nat) (rest : List (List Int)), a0 = wd ∧ 1 ≤ wd ∧ wd ≤ 4 ∧ 0 ≤ a1 ∧ a1 ≤ 4 ∧ l2.length ≤ 48 ∧ r1 = a0 * a1 ∧ 0 ≤ r1 ∧ r1 ≤ 16 ∧ gfold wd r1 l2 ([], []) = some (r2, r3 :: rest) ∧ r3.length ≤ 1000 := by
 unfold gatesOf at h
 split at h
 ·rename_i hc
  obtain ⟨s, hs, h2⟩ := Option.bind_eq_some_iff.mp h
  obtain ⟨s1, s2⟩ := s
  cases s2 with
  | nil => cases h2
  | cons o rest =>
   dsimp only at h2
   split at h2
   ·rename_i ho
    simp only [Option.some.injEq, Prod.mk.injEq] at h2
    obtain ⟨rfl, rfl, rfl⟩ := h2
    have hm : 0 ≤ a0 * a1 := Int.mul_nonneg (by omega) (by omega)
    have hm2 : a0 * a1 ≤ 4 * 4 := Int.mul_le_mul (by omega) (by omega) (by omega) (by omega)
    exact ⟨a0.toNat, rest, by omega, by omega, by omega, by omega, by omega, by omega, rfl, hm, by omega, hs, ho⟩
   ·cases h2
 ·cases h
/-- A row of rows, as it is read: each element with its own row. -/
theorem R_rowsM {α : Type} {d : Kd α} {e b : Nat} {ok : Nat → Prop} {W : World} {A : Option Addr} {n c : Nat} {xs : List α} (h : d.R e W b ok (.slice A n c) xs) : ReadsRow (d.M W b ok) d.sz W A xs.length xs := by
 obtain ⟨A', c', e, _, hr⟩ := OwnRow.reads h.2
 injection e with e1 e2 e3
 subst e1
 exact ⟨hr.1, hr.2.1, fun hn => by
  obtain ⟨ad, e, hc⟩ := hr.2.2 hn
  exact ⟨ad, e, fun j p hj => by
   obtain ⟨cs, hs, hm, hcell⟩ := hc j p hj
   exact ⟨cs, hs, d.M_mono (fun _ hk => hk.1) hm, hcell⟩⟩⟩
theorem own_ne_new {k N n c : Nat} (h : k < N) : some k ≠ (Value.slice (some ⟨N, 0, none⟩) n c).ownBlock := fun e => by
 have : k = N := by simpa [Value.ownBlock] using e
 omega

end Go.Proofs.Ytckgeanmljmhfaa.X
