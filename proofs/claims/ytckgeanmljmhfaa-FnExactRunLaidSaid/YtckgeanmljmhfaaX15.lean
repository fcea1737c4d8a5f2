/- Each Go function as a Lean function, with the proof that the call comes to just its answer; or a law's row out of its pure statement. Conditions: the arguments are of their kinds. Written by this session's program wip/xp/xp.sh. -/
import Derived.Test.YtckgeanmljmhfaaX0
import Derived.Test.YtckgeanmljmhfaaX4
import Derived.Test.YtckgeanmljmhfaaX9
import Derived.StillTailTactics
namespace Go.Proofs.Ytckgeanmljmhfaa.X
open Go.RowKit Go.Proofs.YtckgeanmljmhfaaW.PrintWords Go.Proofs.YtckgeanmljmhfaaW.PrintLast Go.Proofs.YtckgeanmljmhfaaW.PrintMore
attribute [local go_sem] max2_int min2_int max_two min_two max_three min_three max_four min_four   -- for this text's walks alone
set_option linter.unusedVariables false
set_option linter.unusedSimpArgs false

-- HAND
/-! ### bd_gatesw.lean -/
/-- The wires of a variable. -/
def varW (wide : Nat) (n : Int) : Nat → List Int
 | 0 => []
 | k + 1 => varW wide n k ++ [n * wide + k]
theorem varW_len (wide : Nat) (n : Int) : ∀ k, (varW wide n k).length = k
 | 0 => rfl
 | k + 1 => by simp [varW, varW_len wide n k]
def twoOp (op : Int) : Bool := op == 3 || op == 4 || op == 5 || op == 8 || op == 9 || op == 10 || op == 14 || op == 15 || op == 16 || op == 17 || op == 18
/-- What a node does: the gates that it puts, the wires on the stack. -/
def gstep (wide : Nat) (ins : Int) (x : S63) (g : List S93) (st : List (List Int)) : Option (List S93 × List (List Int)) :=
 if 700000 < g.length ∨ 1000 < st.length then none
 else if x.f0 = 2 then (if 0 ≤ x.f1 ∧ x.f1 ≤ 1000 then some (g, st ++ [varW wide x.f1 wide]) else none)
 else if x.f0 = 1 then (if 0 ≤ x.f1 ∧ x.f1 < 18446744073709551616 then some ((emitN ins (fun i => ⟨1, bitv x.f1 i, 0⟩) g wide).1, st ++ [(emitN ins (fun i => ⟨1, bitv x.f1 i, 0⟩) g wide).2]) else none)
 else if x.f0 = 20 then (if 0 ≤ x.f1 ∧ x.f1 < 18446744073709551616 then some ((emitN ins (fun i => ⟨1, bitv x.f1 i, 0⟩) g 1).1, st ++ [(emitN ins (fun i => ⟨1, bitv x.f1 i, 0⟩) g 1).2]) else none)
 else if x.f0 = 13 ∨ x.f0 = 19 then
 match st.reverse with
 | a :: r => if a.length ≤ 4 then some ((emitN ins (fun i => ⟨2, rd a i, 0⟩) g a.length).1, r.reverse ++ [(emitN ins (fun i => ⟨2, rd a i, 0⟩) g a.length).2]) else none
 | [] => none
 else if twoOp x.f0 = true then
 match st.reverse with
 | b :: a :: r => if b.length = a.length ∧ 1 ≤ a.length ∧ a.length ≤ 4 then some ((twoN ins x.f0 a b g).1, r.reverse ++ [(twoN ins x.f0 a b g).2]) else none
 | _ => none
 else none
def gfold (wide : Nat) (ins : Int) : List S63 → List S93 × List (List Int) → Option (List S93 × List (List Int))
 | [], s => some s
 | x :: t, s => (gstep wide ins x s.1 s.2).bind (gfold wide ins t)
theorem gstep_cases {wide : Nat} {ins : Int} {x : S63} {g : List S93} {st : List (List Int)} {s : List S93 × List (List Int)} (h : gstep wide ins x g st = some s) :
 (g.length ≤ 700000 ∧ st.length ≤ 1000) ∧
 ((x.f0 = 2 ∧ 0 ≤ x.f1 ∧ x.f1 ≤ 1000 ∧ s = (g, st ++ [varW wide x.f1 wide])) ∨
     (x.f0 = 1 ∧ 0 ≤ x.f1 ∧ x.f1 < 18446744073709551616 ∧ s = ((emitN ins (fun i => ⟨1, bitv x.f1 i, 0⟩) g wide).1, st ++ [(emitN ins (fun i => ⟨1, bitv x.f1 i, 0⟩) g wide).2])) ∨
     (x.f0 = 20 ∧ 0 ≤ x.f1 ∧ x.f1 < 18446744073709551616 ∧ s = ((emitN ins (fun i => ⟨1, bitv x.f1 i, 0⟩) g 1).1, st ++ [(emitN ins (fun i => ⟨1, bitv x.f1 i, 0⟩) g 1).2])) ∨
     ((x.f0 = 13 ∨ x.f0 = 19) ∧ ∃ r a, st = r ++ [a] ∧ a.length ≤ 4 ∧ s = ((emitN ins (fun i => ⟨2, rd a i, 0⟩) g a.length).1, r ++ [(emitN ins (fun i => ⟨2, rd a i, 0⟩) g a.length).2])) ∨
     (twoOp x.f0 = true ∧ ∃ r a b, st = r ++ [a, b] ∧ b.length = a.length ∧ 1 ≤ a.length ∧ a.length ≤ 4 ∧ s = ((twoN ins x.f0 a b g).1, r ++ [(twoN ins x.f0 a b g).2]))) := by
 unfold gstep at h
 split at h
 ·cases h
 rename_i hg
 refine ⟨by omega, ?_⟩
 split at h
 ·rename_i h2
 split at h
 ·rename_i h3; injection h with h; exact .inl ⟨h2, h3.1, h3.2, h.symm⟩
 ·cases h
 split at h
 ·rename_i h2
 split at h
 ·rename_i h3; injection h with h; exact .inr (.inl ⟨h2, h3.1, h3.2, h.symm⟩)
 ·cases h
 split at h
 ·rename_i h2
 split at h
 ·rename_i h3; injection h with h; exact .inr (.inr (.inl ⟨h2, h3.1, h3.2, h.symm⟩))
 ·cases h
 split at h
 ·rename_i h2
 split at h
 ·rename_i a r hr
   split at h
   ·rename_i h3; injection h with h
  refine .inr (.inr (.inr (.inl ⟨h2, r.reverse, a, ?_, h3, h.symm⟩)))
  rw [← List.reverse_reverse st, hr, List.reverse_cons]
   ·cases h
 ·cases h
 split at h
 ·rename_i h2
 split at h
 ·rename_i b a r hr
   split at h
   ·rename_i h3; injection h with h
  refine .inr (.inr (.inr (.inr ⟨h2, r.reverse, a, b, ?_, h3.1, h3.2.1, h3.2.2, h.symm⟩)))
  rw [← List.reverse_reverse st, hr, List.reverse_cons, List.reverse_cons, List.append_assoc]
  rfl
   ·cases h
 ·cases h
 ·cases h
/-- A row of rows: an element, with its own row. -/
theorem R_rowAt {α : Type} {d : Kd α} {e1 e2 b n cap : Nat} {ok : Nat → Prop} {W : World} {A : Option Addr} {xs : List (List α)} (h : (Kd.slice e2 d).R e1 W b ok (.slice A n cap) xs) (i : Nat) (hi : i < xs.length) :
 ∃ ad A0 c0, A = some ad ∧ W.cell? (ad.add i) = some (.slice A0 (xs[i]).length c0) ∧ (xs[i]).length ≤ c0 ∧ d.R e2 W b ok (.slice A0 (xs[i]).length c0) xs[i] := by
 have hn := (Kd.R_reads' h).1
 cases A with
 | none =>
 have := (Kd.R_reads' h).2.2.2.2 (by omega)
 obtain ⟨ad, e, _⟩ := this
 cases e
 | some ad =>
 obtain ⟨c, hcl, hM, hcc⟩ := Kd.R_getA h ([] : List α) (i : Int) (by omega) (by omega)
 obtain ⟨v, rfl, hv⟩ := hM
 have hx : xs.getD (i : Int).toNat [] = xs[i] := by rw [Int.toNat_natCast, List.getD_eq_getElem?_getD, List.getElem?_eq_getElem hi]; rfl
 rw [hx] at hv
 obtain ⟨A0, c0, rfl⟩ := Kd.R_slice hv
 have h0 := hcc 0 _ rfl
 rw [Int.toNat_natCast, show (Kd.slice e2 d).sz = 1 from rfl, Nat.mul_one, Nat.add_zero] at h0
 exact ⟨ad, A0, c0, rfl, h0, (Kd.R_reads' hv).2.1, Kd.R_mono hv (fun _ hk => hk.1)⟩
theorem R_freshL (d : Kd (List Int)) (W : World) (e : Nat) (ok : Nat → Prop) (hs : d.sz = 1) (hk : ok W.heap.size) : d.R e (W.alloc (.cells #[] e)) W.heap.size ok (.slice (some ⟨W.heap.size, 0, none⟩) 0 0) [] :=
 ⟨fun k h => by
 have h2 : W.heap.size = k := by simpa [Value.ownBlock] using h
 rw [← h2]; exact hk, [], by rw [hs]; exact own_lit W W.heap.size e .i64 [] (Nat.le_refl _) (by simp), Reps.none _ _⟩
theorem R_setL {W : World} {g n cap e e2 b : Nat} {ok okp : Nat → Prop} {xs : List (List Int)} (h : Kd.R (Kd.slice e2 (Kd.int .i64)) e W b ok (.slice (some ⟨g, 0, none⟩) n cap) xs) (i : Nat) (hi : i < n) {v : Value} {x : List Int}
 (hx : Kd.R (Kd.int .i64) e2 W b okp v x) (hokp : ∀ k, okp k → ok k ∧ k ≠ g) :
 Kd.R (Kd.slice e2 (Kd.int .i64)) e (W.setCell ⟨g, i, none⟩ v) b ok (.slice (some ⟨g, 0, none⟩) n cap) (xs.set i x) ∧ W.grownBy (W.setCell ⟨g, i, none⟩ v) (some g) := by
 obtain ⟨c, hcl, hM, hcc, _⟩ := Kd.R_elem h ([] : List Int) (i : Int) (by omega) (by omega)
 obtain ⟨v0, rfl, _⟩ := hM
 obtain ⟨Av, cv, rfl⟩ := Kd.R_slice hx
 have h2 := Kd.R_seg h (i : Int) (by omega) (by omega) (c := [v0]) (seg := [.slice Av x.length cv]) (j := 0) hcl (fun j u hu => hcc j u hu) (by show 0 + 1 ≤ 1; omega) (x' := x) (okp := okp) ⟨_, rfl, hx⟩ hokp
 have e1 : (i : Int).toNat * (Kd.slice e2 (Kd.int .i64)).sz + 0 = i := by simp [Kd.slice]
 rw [e1, Int.toNat_natCast] at h2
 exact h2
theorem R_placeL {W : World} {g n cap e e2 b : Nat} {ok : Nat → Prop} {xs : List (List Int)} (h : Kd.R (Kd.slice e2 (Kd.int .i64)) e W b ok (.slice (some ⟨g, 0, none⟩) n cap) xs) (i : Nat) (hi : i < n) : (∃ A m c, W.cell? ⟨g, i, none⟩ = some (.slice A m c)) ∧ W.frozen? ⟨g, i, none⟩ = false := by
 obtain ⟨c, hcl, hM, hcc, hfr⟩ := Kd.R_elem h ([] : List Int) (i : Int) (by omega) (by omega)
 obtain ⟨v0, rfl, hv⟩ := hM
 obtain ⟨Av, cv, rfl⟩ := Kd.R_slice hv
 have e1 : (i : Int).toNat * (Kd.slice e2 (Kd.int .i64)).sz + 0 = i := by simp [Kd.slice]
 have hf := hfr 0
 have hc := hcc 0 _ rfl
 rw [e1] at hf
 rw [show (i : Int).toNat * (Kd.slice e2 (Kd.int .i64)).sz + 0 = i from e1] at hc
 exact ⟨⟨_, _, _, hc⟩, hf⟩
theorem info_ints : (Try.prog.info? 25).map (fun i => (i.zero, i.size, i.bytes)) = some (some (.slice none 0 0), 1, 24) := by kernel_rfl
theorem blk_fr {tG G base k t : Nat} {w w1 : World} {c : Array Value} (hk : w.heap[k]? = some (.cells c t (0, 0))) (hf : Fr tG G base w w1) (hG : k ≠ G) (ht : t ≠ tG) : w1.heap[k]? = some (.cells c t (0, 0)) := hf.blk hk hG ht
/-- A cell's block behind an append to a row of another type. -/
theorem blk_typed {k t t' : Nat} {w w1 : World} {c : Array Value} {row : Option Nat} (hk : w.heap[k]? = some (.cells c t (0, 0))) (hg : w.grownBy w1 row) (hr : ∀ j, row = some j → ∃ c', w.heap[j]? = some (.cells c' t' (0, 0))) (ht : t ≠ t') : w1.heap[k]? = some (.cells c t (0, 0)) :=
 blk_grown hk hg (fun he => by
 obtain ⟨c', hc'⟩ := hr k he.symm
 rw [hk] at hc'
 injection hc' with hc'
 injection hc' with _ hc'
 exact ht hc')
theorem gfold_at {wide : Nat} {ins : Int} {l : List S63} {kk : Nat} {s fin : List S93 × List (List Int)} (h : gfold wide ins (l.drop kk) s = some fin) (hk : kk < l.length) : ∃ s1, gstep wide ins (rd_T63 l kk) s.1 s.2 = some s1 ∧ gfold wide ins (l.drop (kk + 1)) s1 = some fin := by
 rw [List.drop_eq_getElem_cons hk] at h
 obtain ⟨s1, h1, h2⟩ := Option.bind_eq_some_iff.mp h
 refine ⟨s1, ?_, h2⟩
 have e : rd_T63 l (kk : Int) = l[kk] := by unfold rd_T63; rw [Int.toNat_natCast, List.getD_eq_getElem?_getD, List.getElem?_eq_getElem hk]; rfl
 rw [e]; exact h1
theorem R_rowLast {α : Type} {d : Kd α} {e1 e2 b g n cap : Nat} {ok : Nat → Prop} {W : World} {r : List (List α)} {a : List α} (h : (Kd.slice e2 d).R e1 W b ok (.slice (some ⟨g, 0, none⟩) n cap) (r ++ [a])) :
 ∃ A0 c0, W.cell? ⟨g, r.length, none⟩ = some (.slice A0 a.length c0) ∧ a.length ≤ c0 ∧ d.R e2 W b ok (.slice A0 a.length c0) a := by
 obtain ⟨ad, A0, c0, e, hc, hl, hR⟩ := R_rowAt h r.length (by simp)
 cases e
 have hx : (r ++ [a])[r.length]'(by simp) = a := by simp
 rw [hx] at hc hl hR
 rw [add_plain] at hc
 exact ⟨A0, c0, hc, hl, hR⟩
theorem R_rowLast2 {α : Type} {d : Kd α} {e1 e2 b g n cap : Nat} {ok : Nat → Prop} {W : World} {r : List (List α)} {a a2 : List α} (h : (Kd.slice e2 d).R e1 W b ok (.slice (some ⟨g, 0, none⟩) n cap) (r ++ [a, a2])) :
 ∃ A0 c0 A1 c1, W.cell? ⟨g, r.length, none⟩ = some (.slice A0 a.length c0) ∧ a.length ≤ c0 ∧ d.R e2 W b ok (.slice A0 a.length c0) a ∧ W.cell? ⟨g, r.length + 1, none⟩ = some (.slice A1 a2.length c1) ∧ a2.length ≤ c1 ∧ d.R e2 W b ok (.slice A1 a2.length c1) a2 := by
 obtain ⟨ad, A0, c0, e, hc, hl, hR⟩ := R_rowAt h r.length (by simp)
 cases e
 obtain ⟨ad, A1, c1, e, hc1, hl1, hR1⟩ := R_rowAt h (r.length + 1) (by simp)
 cases e
 have hx : (r ++ [a, a2])[r.length]'(by simp) = a := by simp
 have hx1 : (r ++ [a, a2])[r.length + 1]'(by simp) = a2 := by simp
 rw [hx] at hc hl hR
 rw [hx1] at hc1 hl1 hR1
 rw [add_plain] at hc hc1
 exact ⟨A0, c0, A1, c1, hc, hl, hR, hc1, hl1, hR1⟩
theorem twoOp_ne {op : Int} (h : twoOp op = true) : op ≠ 1 ∧ op ≠ 2 ∧ op ≠ 13 ∧ op ≠ 19 ∧ op ≠ 20 := by
 unfold twoOp at h
 simp only [Bool.or_eq_true, beq_iff_eq] at h
 omega
/-- The circuit of an expression: its inputs, its gates, its result's wires. -/
def gatesOf (a0 : Int) (a1 : Int) (l2 : List S63) : Option (Int × List S93 × List Int) :=
 if 1 ≤ a0 ∧ a0 ≤ 4 ∧ 0 ≤ a1 ∧ a1 ≤ 4 ∧ l2.length ≤ 48 then (gfold a0.toNat (a0 * a1) l2 ([], [])).bind fun s => match s.2 with
 | o :: _ => if o.length ≤ 1000 then some (a0 * a1, s.1, o) else none
 | [] => none else none
theorem gatesFor_open {a0 a1 : Int} {l2 : List S63} {r1 : Int} {r2 : List S93} {r3 : List Int} (h : gatesOf a0 a1 l2 = some (r1, r2, r3)) :
 ∃ (wd : Nat) (rest : List (List Int)), a0 = wd ∧ 1 ≤ wd ∧ wd ≤ 4 ∧ 0 ≤ a1 ∧ a1 ≤ 4 ∧ l2.length ≤ 48 ∧ r1 = a0 * a1 ∧ 0 ≤ r1 ∧ r1 ≤ 16 ∧ gfold wd r1 l2 ([], []) = some (r2, r3 :: rest) ∧ r3.length ≤ 1000 := by
 unfold gatesOf at h
 split at h
 ·rename_i hc
 obtain ⟨s, hs, h2⟩ := Option.bind_eq_some_iff.mp h
 obtain ⟨s1, s2⟩ := s
 cases s2 with
 | nil => cases h2
 | cons o rest =>
   dsimp only at h2
   split at h2
   ·rename_i ho
  simp only [Option.some.injEq, Prod.mk.injEq] at h2
  obtain ⟨rfl, rfl, rfl⟩ := h2
  have hm : 0 ≤ a0 * a1 := Int.mul_nonneg (by omega) (by omega)
  have hm2 : a0 * a1 ≤ 4 * 4 := Int.mul_le_mul (by omega) (by omega) (by omega) (by omega)
  exact ⟨a0.toNat, rest, by omega, by omega, by omega, by omega, by omega, by omega, rfl, hm, by omega, hs, ho⟩
   ·cases h2
 ·cases h
/-- A row of rows, as it is read: each element with its own row. -/
theorem R_rowsM {α : Type} {d : Kd α} {e b : Nat} {ok : Nat → Prop} {W : World} {A : Option Addr} {n c : Nat} {xs : List α} (h : d.R e W b ok (.slice A n c) xs) : ReadsRow (d.M W b ok) d.sz W A xs.length xs := by
 obtain ⟨A', c', e, _, hr⟩ := OwnRow.reads h.2
 injection e with e1 e2 e3
 subst e1
 exact ⟨hr.1, hr.2.1, fun hn => by
 obtain ⟨ad, e, hc⟩ := hr.2.2 hn
 exact ⟨ad, e, fun j p hj => by
   obtain ⟨cs, hs, hm, hcell⟩ := hc j p hj
   exact ⟨cs, hs, d.M_mono (fun _ hk => hk.1) hm, hcell⟩⟩⟩
theorem own_ne_new {k N n c : Nat} (h : k < N) : some k ≠ (Value.slice (some ⟨N, 0, none⟩) n c).ownBlock := fun e => by
 have : k = N := by simpa [Value.ownBlock] using e
 omega


-- HAND
/-! ### spec_l4Build_two: function 64 -/
-- IMPORT Derived.StillTailTactics
set_option maxHeartbeats 16000000 in
set_option maxRecDepth 100000 in
/-- The gates of the operator 8. -/
theorem spec_l4Build_two_8.calls (G base : Nat) (ins : Int) (ov : Value) (g : List S93) (A1 A2 : Option Addr) (c1 c2 : Nat) (a b : List Int) (w : World) (hb : base ≤ w.heap.size) (HBD : Bd 85 G base ins ov w g) (ha : (∀ W', Fr 93 G base w W' → Kd.C (Kd.int .i64) W' A1 a.length a)) (hb2 : (∀ W', Fr 93 G base w W' → Kd.C (Kd.int .i64) W' A2 b.length b)) (hi0 : 0 ≤ ins) (hi1 : ins ≤ 1000000) (hl : g.length ≤ 900000) (hlm : g.length ≤ 800000) (hal : a.length ≤ 50) (hal1 : 1 ≤ a.length) (hc1 : a.length ≤ c1) (hc2 : b.length ≤ c2) (hbl : b.length = a.length) :
 Calls Try.prog 64 #[.pointer (some ⟨G, 0, none⟩), .int .i64 8, .slice A1 a.length c1, .slice A2 b.length c2] w fun e w' => ∃ v : Value, e = .returned v ∧ Bd 85 G base ins ov w' (twoN ins 8 a b g).1 ∧ Kd.R (Kd.int .i64) 3 w' w.heap.size (fun k => k ≠ G) v (twoN ins 8 a b g).2 ∧ Fr 93 G base w w' := by
 have hGlt : G < w.heap.size := by obtain ⟨gv, hG, _⟩ := HBD; exact blk_lt hG
 have HBD0 := Aside0.mk HBD
 have Hha := Aside0.mk ha
 have Hhb2 := Aside0.mk hb2
 have HBL := Aside0.mk hbl
 clear HBD ha hb2 hbl
 have hu1 := Try.underlying25
 have HT := Aside0.mk (show twoN ins 8 a b g = emitN ins (fun i => ⟨3, rd a i, rd b i⟩) g a.length from by unfold twoN; simp)
 have tok1 : True := trivial
 go_enter Try.func64, Try.ntmps64
 go_wp2_with (go_at_call 95; have _t := tok1; refine (spec_l4Build_each.calls G base ins ov g 3 A1 A2 c1 c2 a b w hb HBD0.out Hha.out Hhb2.out hi0 hi1 hl (by omega) HBL.out).mono ?_; rintro e w1 ⟨v1, rfl, hbd, hv, hf⟩; have B1 := Aside0.mk hbd; have V1 := Aside0.mk hv; have F1 := Aside0.mk hf; clear tok1 hbd hv hf)
 go_ret
 rw [HT.out]
 exact ⟨_, rfl, B1.out, V1.out, F1.out⟩

set_option maxHeartbeats 16000000 in
set_option maxRecDepth 100000 in
/-- The gates of the operator 17. -/
theorem spec_l4Build_two_17.calls (G base : Nat) (ins : Int) (ov : Value) (g : List S93) (A1 A2 : Option Addr) (c1 c2 : Nat) (a b : List Int) (w : World) (hb : base ≤ w.heap.size) (HBD : Bd 85 G base ins ov w g) (ha : (∀ W', Fr 93 G base w W' → Kd.C (Kd.int .i64) W' A1 a.length a)) (hb2 : (∀ W', Fr 93 G base w W' → Kd.C (Kd.int .i64) W' A2 b.length b)) (hi0 : 0 ≤ ins) (hi1 : ins ≤ 1000000) (hl : g.length ≤ 900000) (hlm : g.length ≤ 800000) (hal : a.length ≤ 50) (hal1 : 1 ≤ a.length) (hc1 : a.length ≤ c1) (hc2 : b.length ≤ c2) (hbl : b.length = a.length) :
 Calls Try.prog 64 #[.pointer (some ⟨G, 0, none⟩), .int .i64 17, .slice A1 a.length c1, .slice A2 b.length c2] w fun e w' => ∃ v : Value, e = .returned v ∧ Bd 85 G base ins ov w' (twoN ins 17 a b g).1 ∧ Kd.R (Kd.int .i64) 3 w' w.heap.size (fun k => k ≠ G) v (twoN ins 17 a b g).2 ∧ Fr 93 G base w w' := by
 have hGlt : G < w.heap.size := by obtain ⟨gv, hG, _⟩ := HBD; exact blk_lt hG
 have HBD0 := Aside0.mk HBD
 have Hha := Aside0.mk ha
 have Hhb2 := Aside0.mk hb2
 have HBL := Aside0.mk hbl
 clear HBD ha hb2 hbl
 have hu1 := Try.underlying25
 have HT := Aside0.mk (show twoN ins 17 a b g = emitN ins (fun i => ⟨3, rd a i, rd b i⟩) g a.length from by unfold twoN; simp)
 have tok1 : True := trivial
 go_enter Try.func64, Try.ntmps64
 go_wp2_with (go_at_call 95; have _t := tok1; refine (spec_l4Build_each.calls G base ins ov g 3 A1 A2 c1 c2 a b w hb HBD0.out Hha.out Hhb2.out hi0 hi1 hl (by omega) HBL.out).mono ?_; rintro e w1 ⟨v1, rfl, hbd, hv, hf⟩; have B1 := Aside0.mk hbd; have V1 := Aside0.mk hv; have F1 := Aside0.mk hf; clear tok1 hbd hv hf)
 go_ret
 rw [HT.out]
 exact ⟨_, rfl, B1.out, V1.out, F1.out⟩

set_option maxHeartbeats 16000000 in
set_option maxRecDepth 100000 in
/-- The gates of the operator 9. -/
theorem spec_l4Build_two_9.calls (G base : Nat) (ins : Int) (ov : Value) (g : List S93) (A1 A2 : Option Addr) (c1 c2 : Nat) (a b : List Int) (w : World) (hb : base ≤ w.heap.size) (HBD : Bd 85 G base ins ov w g) (ha : (∀ W', Fr 93 G base w W' → Kd.C (Kd.int .i64) W' A1 a.length a)) (hb2 : (∀ W', Fr 93 G base w W' → Kd.C (Kd.int .i64) W' A2 b.length b)) (hi0 : 0 ≤ ins) (hi1 : ins ≤ 1000000) (hl : g.length ≤ 900000) (hlm : g.length ≤ 800000) (hal : a.length ≤ 50) (hal1 : 1 ≤ a.length) (hc1 : a.length ≤ c1) (hc2 : b.length ≤ c2) (hbl : b.length = a.length) :
 Calls Try.prog 64 #[.pointer (some ⟨G, 0, none⟩), .int .i64 9, .slice A1 a.length c1, .slice A2 b.length c2] w fun e w' => ∃ v : Value, e = .returned v ∧ Bd 85 G base ins ov w' (twoN ins 9 a b g).1 ∧ Kd.R (Kd.int .i64) 3 w' w.heap.size (fun k => k ≠ G) v (twoN ins 9 a b g).2 ∧ Fr 93 G base w w' := by
 have hGlt : G < w.heap.size := by obtain ⟨gv, hG, _⟩ := HBD; exact blk_lt hG
 have HBD0 := Aside0.mk HBD
 have Hha := Aside0.mk ha
 have Hhb2 := Aside0.mk hb2
 have HBL := Aside0.mk hbl
 clear HBD ha hb2 hbl
 have hu1 := Try.underlying25
 have HT := Aside0.mk (show twoN ins 9 a b g = emitN ins (fun i => ⟨4, rd a i, rd b i⟩) g a.length from by unfold twoN; simp)
 have tok1 : True := trivial
 go_enter Try.func64, Try.ntmps64
 go_wp2_with (go_at_call 95; have _t := tok1; refine (spec_l4Build_each.calls G base ins ov g 4 A1 A2 c1 c2 a b w hb HBD0.out Hha.out Hhb2.out hi0 hi1 hl (by omega) HBL.out).mono ?_; rintro e w1 ⟨v1, rfl, hbd, hv, hf⟩; have B1 := Aside0.mk hbd; have V1 := Aside0.mk hv; have F1 := Aside0.mk hf; clear tok1 hbd hv hf)
 go_ret
 rw [HT.out]
 exact ⟨_, rfl, B1.out, V1.out, F1.out⟩

set_option maxHeartbeats 16000000 in
set_option maxRecDepth 100000 in
/-- The gates of the operator 18. -/
theorem spec_l4Build_two_18.calls (G base : Nat) (ins : Int) (ov : Value) (g : List S93) (A1 A2 : Option Addr) (c1 c2 : Nat) (a b : List Int) (w : World) (hb : base ≤ w.heap.size) (HBD : Bd 85 G base ins ov w g) (ha : (∀ W', Fr 93 G base w W' → Kd.C (Kd.int .i64) W' A1 a.length a)) (hb2 : (∀ W', Fr 93 G base w W' → Kd.C (Kd.int .i64) W' A2 b.length b)) (hi0 : 0 ≤ ins) (hi1 : ins ≤ 1000000) (hl : g.length ≤ 900000) (hlm : g.length ≤ 800000) (hal : a.length ≤ 50) (hal1 : 1 ≤ a.length) (hc1 : a.length ≤ c1) (hc2 : b.length ≤ c2) (hbl : b.length = a.length) :
 Calls Try.prog 64 #[.pointer (some ⟨G, 0, none⟩), .int .i64 18, .slice A1 a.length c1, .slice A2 b.length c2] w fun e w' => ∃ v : Value, e = .returned v ∧ Bd 85 G base ins ov w' (twoN ins 18 a b g).1 ∧ Kd.R (Kd.int .i64) 3 w' w.heap.size (fun k => k ≠ G) v (twoN ins 18 a b g).2 ∧ Fr 93 G base w w' := by
 have hGlt : G < w.heap.size := by obtain ⟨gv, hG, _⟩ := HBD; exact blk_lt hG
 have HBD0 := Aside0.mk HBD
 have Hha := Aside0.mk ha
 have Hhb2 := Aside0.mk hb2
 have HBL := Aside0.mk hbl
 clear HBD ha hb2 hbl
 have hu1 := Try.underlying25
 have HT := Aside0.mk (show twoN ins 18 a b g = emitN ins (fun i => ⟨4, rd a i, rd b i⟩) g a.length from by unfold twoN; simp)
 have tok1 : True := trivial
 go_enter Try.func64, Try.ntmps64
 go_wp2_with (go_at_call 95; have _t := tok1; refine (spec_l4Build_each.calls G base ins ov g 4 A1 A2 c1 c2 a b w hb HBD0.out Hha.out Hhb2.out hi0 hi1 hl (by omega) HBL.out).mono ?_; rintro e w1 ⟨v1, rfl, hbd, hv, hf⟩; have B1 := Aside0.mk hbd; have V1 := Aside0.mk hv; have F1 := Aside0.mk hf; clear tok1 hbd hv hf)
 go_ret
 rw [HT.out]
 exact ⟨_, rfl, B1.out, V1.out, F1.out⟩

set_option maxHeartbeats 16000000 in
set_option maxRecDepth 100000 in
/-- The gates of the operator 10. -/
theorem spec_l4Build_two_10.calls (G base : Nat) (ins : Int) (ov : Value) (g : List S93) (A1 A2 : Option Addr) (c1 c2 : Nat) (a b : List Int) (w : World) (hb : base ≤ w.heap.size) (HBD : Bd 85 G base ins ov w g) (ha : (∀ W', Fr 93 G base w W' → Kd.C (Kd.int .i64) W' A1 a.length a)) (hb2 : (∀ W', Fr 93 G base w W' → Kd.C (Kd.int .i64) W' A2 b.length b)) (hi0 : 0 ≤ ins) (hi1 : ins ≤ 1000000) (hl : g.length ≤ 900000) (hlm : g.length ≤ 800000) (hal : a.length ≤ 50) (hal1 : 1 ≤ a.length) (hc1 : a.length ≤ c1) (hc2 : b.length ≤ c2) (hbl : b.length = a.length) :
 Calls Try.prog 64 #[.pointer (some ⟨G, 0, none⟩), .int .i64 10, .slice A1 a.length c1, .slice A2 b.length c2] w fun e w' => ∃ v : Value, e = .returned v ∧ Bd 85 G base ins ov w' (twoN ins 10 a b g).1 ∧ Kd.R (Kd.int .i64) 3 w' w.heap.size (fun k => k ≠ G) v (twoN ins 10 a b g).2 ∧ Fr 93 G base w w' := by
 have hGlt : G < w.heap.size := by obtain ⟨gv, hG, _⟩ := HBD; exact blk_lt hG
 have HBD0 := Aside0.mk HBD
 have Hha := Aside0.mk ha
 have Hhb2 := Aside0.mk hb2
 have HBL := Aside0.mk hbl
 clear HBD ha hb2 hbl
 have hu1 := Try.underlying25
 have HT := Aside0.mk (show twoN ins 10 a b g = emitN ins (fun i => ⟨5, rd a i, rd b i⟩) g a.length from by unfold twoN; simp)
 have tok1 : True := trivial
 go_enter Try.func64, Try.ntmps64
 go_wp2_with (go_at_call 95; have _t := tok1; refine (spec_l4Build_each.calls G base ins ov g 5 A1 A2 c1 c2 a b w hb HBD0.out Hha.out Hhb2.out hi0 hi1 hl (by omega) HBL.out).mono ?_; rintro e w1 ⟨v1, rfl, hbd, hv, hf⟩; have B1 := Aside0.mk hbd; have V1 := Aside0.mk hv; have F1 := Aside0.mk hf; clear tok1 hbd hv hf)
 go_ret
 rw [HT.out]
 exact ⟨_, rfl, B1.out, V1.out, F1.out⟩

set_option maxHeartbeats 16000000 in
set_option maxRecDepth 100000 in
/-- The gates of the operator 3. -/
theorem spec_l4Build_two_3.calls (G base : Nat) (ins : Int) (ov : Value) (g : List S93) (A1 A2 : Option Addr) (c1 c2 : Nat) (a b : List Int) (w : World) (hb : base ≤ w.heap.size) (HBD : Bd 85 G base ins ov w g) (ha : (∀ W', Fr 93 G base w W' → Kd.C (Kd.int .i64) W' A1 a.length a)) (hb2 : (∀ W', Fr 93 G base w W' → Kd.C (Kd.int .i64) W' A2 b.length b)) (hi0 : 0 ≤ ins) (hi1 : ins ≤ 1000000) (hl : g.length ≤ 900000) (hlm : g.length ≤ 800000) (hal : a.length ≤ 50) (hal1 : 1 ≤ a.length) (hc1 : a.length ≤ c1) (hc2 : b.length ≤ c2) (hbl : b.length = a.length) :
 Calls Try.prog 64 #[.pointer (some ⟨G, 0, none⟩), .int .i64 3, .slice A1 a.length c1, .slice A2 b.length c2] w fun e w' => ∃ v : Value, e = .returned v ∧ Bd 85 G base ins ov w' (twoN ins 3 a b g).1 ∧ Kd.R (Kd.int .i64) 3 w' w.heap.size (fun k => k ≠ G) v (twoN ins 3 a b g).2 ∧ Fr 93 G base w w' := by
 have hGlt : G < w.heap.size := by obtain ⟨gv, hG, _⟩ := HBD; exact blk_lt hG
 have HBD0 := Aside0.mk HBD
 have Hha := Aside0.mk ha
 have Hhb2 := Aside0.mk hb2
 have HBL := Aside0.mk hbl
 clear HBD ha hb2 hbl
 have hu1 := Try.underlying25
 obtain ⟨g1, hg1⟩ : ∃ q, q = g ++ [(⟨1, 0, 0⟩ : S93)] := ⟨_, rfl⟩
 obtain ⟨d, hd⟩ : ∃ q, q = ins + (g.length : Int) := ⟨_, rfl⟩
 have ht : twoN ins 3 a b g = ((addN ins a b d g1 a.length).1, (addN ins a b d g1 a.length).2.1) := by rw [hd, hg1]; unfold twoN; simp
 have HT := Aside0.mk ht
 have G1 := Aside0.mk hg1
 have N0 := Aside0.mk hd
 have L1 : g1.length ≤ 900000 := by rw [hg1, List.length_append, List.length_singleton]; omega
 have F0 := Aside0.mk (Fr.refl 93 G base w)
 have tok1 : True := trivial
 have tok2 : True := trivial
 clear ht hg1 hd
 go_enter Try.func64, Try.ntmps64
 go_wp2_with (first | (go_at_call 92; have _t := tok1; refine (spec_l4Build_gate.calls G base ins ov g g1 1 0 0 d _ (Nat.le_trans hb F0.out.size) HBD0.out hi0 hi1 (by omega) N0.out G1.out).mono ?_; rintro e w1 ⟨rfl, hbd, hf⟩; have B1 := Aside0.mk hbd; have F1 := Aside0.mk (F0.out.trans hf); clear tok1 hbd hf) | (go_at_call 93; have _t := tok2; refine (spec_l4Build_add.calls G base ins ov g1 A1 A2 c1 c2 a b d w1 (Nat.le_trans hb F1.out.size) B1.out (Fr.C_step Hha.out F1.out) (Fr.C_step Hhb2.out F1.out) hi0 hi1 L1 (by omega) HBL.out).mono ?_; rintro e w2 ⟨v2, rfl, hbd, hv, hf⟩; have B2 := Aside0.mk hbd; have V2 := Aside0.mk (Kd.R_lower hv F1.out.size); have F2 := Aside0.mk (F1.out.trans hf); clear tok2 hbd hv hf))
 go_ret
 rw [HT.out]
 exact ⟨_, rfl, B2.out, V2.out, F2.out⟩

set_option maxHeartbeats 16000000 in
set_option maxRecDepth 100000 in
/-- The gates of the operator 4. -/
theorem spec_l4Build_two_4.calls (G base : Nat) (ins : Int) (ov : Value) (g : List S93) (A1 A2 : Option Addr) (c1 c2 : Nat) (a b : List Int) (w : World) (hb : base ≤ w.heap.size) (HBD : Bd 85 G base ins ov w g) (ha : (∀ W', Fr 93 G base w W' → Kd.C (Kd.int .i64) W' A1 a.length a)) (hb2 : (∀ W', Fr 93 G base w W' → Kd.C (Kd.int .i64) W' A2 b.length b)) (hi0 : 0 ≤ ins) (hi1 : ins ≤ 1000000) (hl : g.length ≤ 900000) (hlm : g.length ≤ 800000) (hal : a.length ≤ 50) (hal1 : 1 ≤ a.length) (hc1 : a.length ≤ c1) (hc2 : b.length ≤ c2) (hbl : b.length = a.length) :
 Calls Try.prog 64 #[.pointer (some ⟨G, 0, none⟩), .int .i64 4, .slice A1 a.length c1, .slice A2 b.length c2] w fun e w' => ∃ v : Value, e = .returned v ∧ Bd 85 G base ins ov w' (twoN ins 4 a b g).1 ∧ Kd.R (Kd.int .i64) 3 w' w.heap.size (fun k => k ≠ G) v (twoN ins 4 a b g).2 ∧ Fr 93 G base w w' := by
 have hGlt : G < w.heap.size := by obtain ⟨gv, hG, _⟩ := HBD; exact blk_lt hG
 have HBD0 := Aside0.mk HBD
 have Hha := Aside0.mk ha
 have Hhb2 := Aside0.mk hb2
 have HBL := Aside0.mk hbl
 clear HBD ha hb2 hbl
 have hu1 := Try.underlying25
 obtain ⟨gn, hgn⟩ : ∃ q, (emitN ins (fun i => ⟨2, rd b i, 0⟩) g b.length).1 = q := ⟨_, rfl⟩
 obtain ⟨nn, hnn⟩ : ∃ q, (emitN ins (fun i => ⟨2, rd b i, 0⟩) g b.length).2 = q := ⟨_, rfl⟩
 have hlen := emitN_len ins (fun i => ⟨2, rd b i, 0⟩) g b.length
 rw [hgn, hnn] at hlen
 obtain ⟨hl1, hl2⟩ := hlen
 have hbn := HBL.out
 have Lg : gn.length ≤ 810000 := by omega
 have NL := Aside0.mk (show nn.length = a.length by omega)
 clear hl1 hl2 hbn
 obtain ⟨g1, hg1⟩ : ∃ q, q = gn ++ [(⟨1, 1, 0⟩ : S93)] := ⟨_, rfl⟩
 obtain ⟨d, hd⟩ : ∃ q, q = ins + (gn.length : Int) := ⟨_, rfl⟩
 have ht : twoN ins 4 a b g = ((addN ins a nn d g1 a.length).1, (addN ins a nn d g1 a.length).2.1) := by rw [hd, hg1, ← hgn, ← hnn]; unfold twoN; simp
 have HT := Aside0.mk ht
 have G1 := Aside0.mk hg1
 have N0 := Aside0.mk hd
 have HGN := Aside0.mk hgn
 have HNN := Aside0.mk hnn
 have L1 : g1.length ≤ 900000 := by rw [hg1, List.length_append, List.length_singleton]; omega
 have tok0 : True := trivial
 have tok1 : True := trivial
 have tok2 : True := trivial
 clear ht hg1 hd hgn hnn
 go_enter Try.func64, Try.ntmps64
 go_wp2_with (first | (go_at_call 63; have _t := tok0; refine (spec_l4Build_nots.calls G base ins ov g A2 c2 b w hb HBD0.out Hhb2.out hi0 hi1 hl (by have := HBL.out; omega)).mono ?_; rintro e w0 ⟨v0, rfl, hbd, hv, hf⟩; rw [HGN.out] at hbd; rw [HNN.out] at hv; obtain ⟨A9, c9, rfl⟩ := Kd.R_slice hv; have B0 := Aside0.mk hbd; have V0 := Aside0.mk hv; have F0 := Aside0.mk hf; clear tok0 hbd hv hf) | (go_at_call 92; have _t := tok1; refine (spec_l4Build_gate.calls G base ins ov gn g1 1 1 0 d _ (Nat.le_trans hb F0.out.size) B0.out hi0 hi1 (by omega) N0.out G1.out).mono ?_; rintro e w1 ⟨rfl, hbd, hf⟩; have B1 := Aside0.mk hbd; have F1 := Aside0.mk (F0.out.trans hf); have V1 := Aside0.mk (Fr.R hf V0.out (by decide) (fun _ hk => hk)); clear tok1 hbd hf) | (go_at_call 93; have _t := tok2; refine (spec_l4Build_add.calls G base ins ov g1 A1 A9 c1 c9 a nn d w1 (Nat.le_trans hb F1.out.size) B1.out (Fr.C_step Hha.out F1.out) (Fr.C_own V1.out (by decide) (fun _ hk => hk)) hi0 hi1 L1 (by omega) NL.out).mono ?_; rintro e w2 ⟨v2, rfl, hbd, hv, hf⟩; have B2 := Aside0.mk hbd; have V2 := Aside0.mk (Kd.R_lower hv F1.out.size); have F2 := Aside0.mk (F1.out.trans hf); clear tok2 hbd hv hf))
 go_ret
 rw [HT.out]
 exact ⟨_, rfl, B2.out, V2.out, F2.out⟩

set_option maxHeartbeats 16000000 in
set_option maxRecDepth 100000 in
/-- The gates of the operator 5. -/
theorem spec_l4Build_two_5.calls (G base : Nat) (ins : Int) (ov : Value) (g : List S93) (A1 A2 : Option Addr) (c1 c2 : Nat) (a b : List Int) (w : World) (hb : base ≤ w.heap.size) (HBD : Bd 85 G base ins ov w g) (ha : (∀ W', Fr 93 G base w W' → Kd.C (Kd.int .i64) W' A1 a.length a)) (hb2 : (∀ W', Fr 93 G base w W' → Kd.C (Kd.int .i64) W' A2 b.length b)) (hi0 : 0 ≤ ins) (hi1 : ins ≤ 1000000) (hl : g.length ≤ 900000) (hlm : g.length ≤ 800000) (hal : a.length ≤ 50) (hal1 : 1 ≤ a.length) (hc1 : a.length ≤ c1) (hc2 : b.length ≤ c2) (hbl : b.length = a.length) :
 Calls Try.prog 64 #[.pointer (some ⟨G, 0, none⟩), .int .i64 5, .slice A1 a.length c1, .slice A2 b.length c2] w fun e w' => ∃ v : Value, e = .returned v ∧ Bd 85 G base ins ov w' (twoN ins 5 a b g).1 ∧ Kd.R (Kd.int .i64) 3 w' w.heap.size (fun k => k ≠ G) v (twoN ins 5 a b g).2 ∧ Fr 93 G base w w' := by
 have hGlt : G < w.heap.size := by obtain ⟨gv, hG, _⟩ := HBD; exact blk_lt hG
 have HBD0 := Aside0.mk HBD
 have Hha := Aside0.mk ha
 have Hhb2 := Aside0.mk hb2
 have HBL := Aside0.mk hbl
 clear HBD ha hb2 hbl
 have hu1 := Try.underlying25
 have HT := Aside0.mk (show twoN ins 5 a b g = mulN ins a b g b.length from by unfold twoN; simp)
 have tok1 : True := trivial
 go_enter Try.func64, Try.ntmps64
 go_wp2_with (go_at_call 94; have _t := tok1; refine (spec_l4Build_mul.calls G base ins ov g A1 A2 c1 c2 a b w hb HBD0.out Hha.out Hhb2.out hi0 hi1 hl hlm hal HBL.out).mono ?_; rintro e w1 ⟨v1, rfl, hbd, hv, hf⟩; have B1 := Aside0.mk hbd; have V1 := Aside0.mk hv; have F1 := Aside0.mk hf; clear tok1 hbd hv hf)
 go_ret
 rw [HT.out]
 exact ⟨_, rfl, B1.out, V1.out, F1.out⟩

set_option maxHeartbeats 16000000 in
set_option maxRecDepth 100000 in
/-- The gates of the operator 14. -/
theorem spec_l4Build_two_14.calls (G base : Nat) (ins : Int) (ov : Value) (g : List S93) (A1 A2 : Option Addr) (c1 c2 : Nat) (a b : List Int) (w : World) (hb : base ≤ w.heap.size) (HBD : Bd 85 G base ins ov w g) (ha : (∀ W', Fr 93 G base w W' → Kd.C (Kd.int .i64) W' A1 a.length a)) (hb2 : (∀ W', Fr 93 G base w W' → Kd.C (Kd.int .i64) W' A2 b.length b)) (hi0 : 0 ≤ ins) (hi1 : ins ≤ 1000000) (hl : g.length ≤ 900000) (hlm : g.length ≤ 800000) (hal : a.length ≤ 50) (hal1 : 1 ≤ a.length) (hc1 : a.length ≤ c1) (hc2 : b.length ≤ c2) (hbl : b.length = a.length) :
 Calls Try.prog 64 #[.pointer (some ⟨G, 0, none⟩), .int .i64 14, .slice A1 a.length c1, .slice A2 b.length c2] w fun e w' => ∃ v : Value, e = .returned v ∧ Bd 85 G base ins ov w' (twoN ins 14 a b g).1 ∧ Kd.R (Kd.int .i64) 3 w' w.heap.size (fun k => k ≠ G) v (twoN ins 14 a b g).2 ∧ Fr 93 G base w w' := by
 have hGlt : G < w.heap.size := by obtain ⟨gv, hG, _⟩ := HBD; exact blk_lt hG
 have HBD0 := Aside0.mk HBD
 have Hha := Aside0.mk ha
 have Hhb2 := Aside0.mk hb2
 have HBL := Aside0.mk hbl
 clear HBD ha hb2 hbl
 have hu1 := Try.underlying25
 obtain ⟨x, hx⟩ : ∃ q, (eqN ins a b g a.length).2 = q := ⟨_, rfl⟩
 have ht : twoN ins 14 a b g = ((eqN ins a b g a.length).1, [x]) := by rw [← hx]; unfold twoN; simp
 have HT := Aside0.mk ht
 have HX := Aside0.mk hx
 have tok1 : True := trivial
 clear ht hx
 go_enter Try.func64, Try.ntmps64
 go_wp2_with (go_at_call 96; have _t := tok1; refine (spec_l4Build_eq.calls G base ins ov g A1 A2 c1 c2 a b w hb HBD0.out Hha.out Hhb2.out hi0 hi1 hl (by omega) HBL.out).mono ?_; rintro e w1 ⟨rfl, hbd, hf⟩; rw [HX.out]; have B1 := Aside0.mk hbd; have F1 := Aside0.mk hf; have hs1 := hf.size; clear tok1 hbd hf)
 go_ret
 rw [HT.out]
 exact ⟨_, rfl, B1.out.alloc _, Kd.R_lower (R_one w1 3 (fun k => k ≠ G) x (by omega)) hs1, F1.out.alloc _⟩

set_option maxHeartbeats 16000000 in
set_option maxRecDepth 100000 in
/-- The gates of the operator 15. -/
theorem spec_l4Build_two_15.calls (G base : Nat) (ins : Int) (ov : Value) (g : List S93) (A1 A2 : Option Addr) (c1 c2 : Nat) (a b : List Int) (w : World) (hb : base ≤ w.heap.size) (HBD : Bd 85 G base ins ov w g) (ha : (∀ W', Fr 93 G base w W' → Kd.C (Kd.int .i64) W' A1 a.length a)) (hb2 : (∀ W', Fr 93 G base w W' → Kd.C (Kd.int .i64) W' A2 b.length b)) (hi0 : 0 ≤ ins) (hi1 : ins ≤ 1000000) (hl : g.length ≤ 900000) (hlm : g.length ≤ 800000) (hal : a.length ≤ 50) (hal1 : 1 ≤ a.length) (hc1 : a.length ≤ c1) (hc2 : b.length ≤ c2) (hbl : b.length = a.length) :
 Calls Try.prog 64 #[.pointer (some ⟨G, 0, none⟩), .int .i64 15, .slice A1 a.length c1, .slice A2 b.length c2] w fun e w' => ∃ v : Value, e = .returned v ∧ Bd 85 G base ins ov w' (twoN ins 15 a b g).1 ∧ Kd.R (Kd.int .i64) 3 w' w.heap.size (fun k => k ≠ G) v (twoN ins 15 a b g).2 ∧ Fr 93 G base w w' := by
 have hGlt : G < w.heap.size := by obtain ⟨gv, hG, _⟩ := HBD; exact blk_lt hG
 have HBD0 := Aside0.mk HBD
 have Hha := Aside0.mk ha
 have Hhb2 := Aside0.mk hb2
 have HBL := Aside0.mk hbl
 clear HBD ha hb2 hbl
 have hu1 := Try.underlying25
 obtain ⟨x, hx⟩ : ∃ q, (lessN ins a b g a.length).2 = q := ⟨_, rfl⟩
 have ht : twoN ins 15 a b g = ((lessN ins a b g a.length).1, [x]) := by rw [← hx]; unfold twoN; simp
 have HT := Aside0.mk ht
 have HX := Aside0.mk hx
 have tok1 : True := trivial
 clear ht hx
 go_enter Try.func64, Try.ntmps64
 go_wp2_with (go_at_call 97; have _t := tok1; refine (spec_l4Build_less.calls G base ins ov g A1 A2 c1 c2 a b w hb HBD0.out Hha.out Hhb2.out hi0 hi1 hl (by omega) HBL.out).mono ?_; rintro e w1 ⟨rfl, hbd, hf⟩; rw [HX.out]; have B1 := Aside0.mk hbd; have F1 := Aside0.mk hf; have hs1 := hf.size; clear tok1 hbd hf)
 go_ret
 rw [HT.out]
 exact ⟨_, rfl, B1.out.alloc _, Kd.R_lower (R_one w1 3 (fun k => k ≠ G) x (by omega)) hs1, F1.out.alloc _⟩

set_option maxHeartbeats 16000000 in
set_option maxRecDepth 100000 in
/-- The gates of the operator 16. -/
theorem spec_l4Build_two_16.calls (G base : Nat) (ins : Int) (ov : Value) (g : List S93) (A1 A2 : Option Addr) (c1 c2 : Nat) (a b : List Int) (w : World) (hb : base ≤ w.heap.size) (HBD : Bd 85 G base ins ov w g) (ha : (∀ W', Fr 93 G base w W' → Kd.C (Kd.int .i64) W' A1 a.length a)) (hb2 : (∀ W', Fr 93 G base w W' → Kd.C (Kd.int .i64) W' A2 b.length b)) (hi0 : 0 ≤ ins) (hi1 : ins ≤ 1000000) (hl : g.length ≤ 900000) (hlm : g.length ≤ 800000) (hal : a.length ≤ 50) (hal1 : 1 ≤ a.length) (hc1 : a.length ≤ c1) (hc2 : b.length ≤ c2) (hbl : b.length = a.length) :
 Calls Try.prog 64 #[.pointer (some ⟨G, 0, none⟩), .int .i64 16, .slice A1 a.length c1, .slice A2 b.length c2] w fun e w' => ∃ v : Value, e = .returned v ∧ Bd 85 G base ins ov w' (twoN ins 16 a b g).1 ∧ Kd.R (Kd.int .i64) 3 w' w.heap.size (fun k => k ≠ G) v (twoN ins 16 a b g).2 ∧ Fr 93 G base w w' := by
 have hGlt : G < w.heap.size := by obtain ⟨gv, hG, _⟩ := HBD; exact blk_lt hG
 have HBD0 := Aside0.mk HBD
 have Hha := Aside0.mk ha
 have Hhb2 := Aside0.mk hb2
 have HBL := Aside0.mk hbl
 clear HBD ha hb2 hbl
 have hu1 := Try.underlying25
 obtain ⟨m, hm⟩ : ∃ m, a.length = m + 1 := ⟨a.length - 1, by omega⟩
 have hmz : (a.length : Int) - 1 = (m : Int) := by omega
 have HLM := Aside0.mk (show m < a.length by omega)
 have HLB := Aside0.mk (show m < b.length by have := HBL.out; omega)
 have hlb := HLB.out
 have hla := HLM.out
 obtain ⟨x, hx⟩ : ∃ x, rd a m = x := ⟨_, rfl⟩
 obtain ⟨y, hy⟩ : ∃ y, rd b m = y := ⟨_, rfl⟩
 obtain ⟨d, hd⟩ : ∃ q, q = ins + (g.length : Int) := ⟨_, rfl⟩
 obtain ⟨g1, hg1⟩ : ∃ q, q = g ++ [(⟨2, x, 0⟩ : S93)] := ⟨_, rfl⟩
 obtain ⟨g2, hg2⟩ : ∃ q, q = g1 ++ [(⟨2, y, 0⟩ : S93)] := ⟨_, rfl⟩
 have n1 : (g1.length : Int) = g.length + 1 := by rw [hg1]; simp
 have n2 : (g2.length : Int) = g.length + 2 := by rw [hg2, List.length_append, List.length_singleton]; omega
 obtain ⟨p, hp⟩ : ∃ q, q = a.set m d := ⟨_, rfl⟩
 obtain ⟨q, hq⟩ : ∃ r, r = b.set m (d + 1) := ⟨_, rfl⟩
 obtain ⟨z, hz⟩ : ∃ r, (lessN ins p q g2 a.length).2 = r := ⟨_, rfl⟩
 have ht : twoN ins 16 a b g = ((lessN ins p q g2 a.length).1, [z]) := by rw [← hz, hp, hq, hg2, hg1, hd, ← hx, ← hy]; unfold twoN; rw [show a.length - 1 = m by omega]; simp
 have HT := Aside0.mk ht
 have HX := Aside0.mk hx
 have HY := Aside0.mk hy
 have HZ := Aside0.mk hz
 have HP := Aside0.mk hp
 have HQ := Aside0.mk hq
 have G1 := Aside0.mk hg1
 have G2 := Aside0.mk hg2
 have N0 := Aside0.mk hd
 have N1 := Aside0.mk (show d + 1 = ins + (g1.length : Int) by omega)
 have L1 : g1.length ≤ 1000000 := by omega
 have L2 : g2.length ≤ 900000 := by omega
 have hd0 : 0 ≤ d := by omega
 have hd1 : d ≤ 2000000 := by omega
 have OW1 := Aside0.mk (show spec_l1Own.f a = some a from by unfold spec_l1Own.f; rw [Option.bind_some, if_pos (by simp; omega), List.nil_append])
 have OW2 := Aside0.mk (show spec_l1Own.f b = some b from by unfold spec_l1Own.f; rw [Option.bind_some, if_pos (by have := HBL.out; simp; omega), List.nil_append])
 have F0 := Aside0.mk (Fr.refl 93 G base w)
 have tok1 : True := trivial
 have tok2 : True := trivial
 have tok3 : True := trivial
 have tok5 : True := trivial
 have tok7 : True := trivial
 obtain ⟨ad, e, hxa0⟩ := Kd.at_int (Hha.out _ F0.out) (m : Int) (by omega) (by omega)
 cases e
 obtain ⟨ae, e, hya0⟩ := Kd.at_int (Hhb2.out _ F0.out) (m : Int) (by omega) (by have := HLB.out; omega)
 cases e
 clear hxa0 hya0 ht hx hy hz hp hq hg1 hg2 hd n1 n2 hm
 go_enter Try.func64, Try.ntmps64
 go_wp2_with (first | (go_at_call 98; have _t := tok1; refine (spec_l1Own.calls (some ad) c1 a a w (Hha.out _ F0.out) hc1 (OW1.out)).mono ?_; rintro e w1 ⟨v1, rfl, hv, hb_⟩; obtain ⟨gr1, cp1, hv_, _, _, hh1⟩ := Kd.R_form hv (by have := HBL.out; omega); cases hv_; have R1 := Aside0.mk (Kd.R_mono (Kd.R_bound hv) (ok' := fun k => k ≠ G ∧ w.heap.size ≤ k) (fun k hk => ⟨by have := hk.2.1; have := F0.out.size; omega, hk.2.1⟩)); have F1 := Aside0.mk (F0.out.step_below hb_); have B1 := Aside0.mk (HBD0.out.below hb_); clear tok1 hv hb_ hh1) | (go_at_call 98; have _t := tok2; refine (spec_l1Own.calls (some ae) c2 b b w1 (Hhb2.out _ F1.out) hc2 (OW2.out)).mono ?_; rintro e w2 ⟨v2, rfl, hv, hb_⟩; obtain ⟨gr2, cp2, hv_, _, _, hh2⟩ := Kd.R_form hv (by have := HBL.out; omega); cases hv_; have R2 := Aside0.mk (Kd.R_mono (Kd.R_bound hv) (ok' := fun k => k ≠ G ∧ w1.heap.size ≤ k) (fun k hk => ⟨by have := hk.2.1; have := F1.out.size; omega, hk.2.1⟩)); have F2 := Aside0.mk (F1.out.step_below hb_); have B2 := Aside0.mk (B1.out.below hb_); have P2 := Aside0.mk (R_till R1.out); have P2 := Aside0.mk (Kd.R_below P2.out hb_); have hxa := Fr.cellAt F2.out Hha.out HLM.out HX.out; clear tok2 hv hb_ hh2) | (go_at_call 92; have _t := tok3; refine (spec_l4Build_gate.calls G base ins ov g g1 2 x 0 d _ (Nat.le_trans hb F2.out.size) B2.out hi0 hi1 (by omega) N0.out G1.out).mono ?_; rintro e w3 ⟨rfl, hbd, hf⟩; have B3 := Aside0.mk hbd; have F3 := Aside0.mk (F2.out.trans hf); have P3 := Aside0.mk (Fr.R hf P2.out (by decide) (fun _ hk => hk.1.1)); have R3 := Aside0.mk (Fr.R hf R2.out (by decide) (fun _ hk => hk.1)); obtain ⟨⟨u3, hc3⟩, hf3⟩ := R_placeI P3.out m HLM.out; clear hxa; clear tok3 hbd hf) | ((with_reducible refine gate_store (t := 3) (p := 92) rfl ?_); refine store_event (t := 3) (p := 92) (v := .tmp 91) (w1 := w3.setCell ⟨gr1, m, none⟩ (.int .i64 d)) ?hg ?ho ?hn ?hr ?_; (case ho => rfl); (case hg => rfl); (case hn => rfl); (case hr => first | (go_simp; done) | (go_simp; rfl)); intro w4 hw; obtain ⟨hR4, hg4⟩ := R_setI P3.out m HLM.out d; rw [← hw] at hR4 hg4; have P4 := Aside0.mk hR4; have R4 := Aside0.mk (R_new_grown R3.out hg4 (fun k e_ => by injection e_ with e_; have := (P3.out.1 gr1 rfl).2; omega)); have B4 := Aside0.mk (Bd.grown B3.out hg4 (fun k e_ => by injection e_ with e_; rw [← e_]; exact Kd.R_typed P3.out gr1 rfl) (by decide) (by decide)); have F4 := Aside0.mk (Fr.grown_new F3.out hg4 (fun k e_ => by injection e_ with e_; have := own_ge P3.out gr1 rfl; omega)); have hxb := Fr.cellAt F4.out Hhb2.out HLB.out HY.out; clear hw hR4 hg4 hc3 hf3) | (go_at_call 92; have _t := tok5; refine (spec_l4Build_gate.calls G base ins ov g1 g2 2 y 0 (d + 1) _ (Nat.le_trans hb F4.out.size) B4.out hi0 hi1 L1 N1.out G2.out).mono ?_; rintro e w5 ⟨rfl, hbd, hf⟩; have B5 := Aside0.mk hbd; have F5 := Aside0.mk (F4.out.trans hf); have P5 := Aside0.mk (Fr.R hf P4.out (by decide) (fun _ hk => hk.1.1)); have R5 := Aside0.mk (Fr.R hf R4.out (by decide) (fun _ hk => hk.1)); obtain ⟨⟨u5, hc5⟩, hf5⟩ := R_placeI R5.out m HLB.out; clear hxb; clear tok5 hbd hf) | ((with_reducible refine gate_store (t := 3) (p := 101) rfl ?_); refine store_event (t := 3) (p := 101) (v := .tmp 100) (w1 := w5.setCell ⟨gr2, m, none⟩ (.int .i64 (d + 1))) ?hg ?ho ?hn ?hr ?_; (case ho => rfl); (case hg => rfl); (case hn => rfl); (case hr => first | (go_simp; done) | (go_simp; rfl)); intro w6 hw; obtain ⟨hR6, hg6⟩ := R_setI R5.out m HLB.out (d + 1); rw [← hw] at hR6 hg6; have R6 := Aside0.mk hR6; have P6 := Aside0.mk (R_old_grown P5.out hg6 (fun k e_ => by injection e_ with e_; have := (R5.out.1 gr2 rfl).2; omega)); have B6 := Aside0.mk (Bd.grown B5.out hg6 (fun k e_ => by injection e_ with e_; rw [← e_]; exact Kd.R_typed R5.out gr2 rfl) (by decide) (by decide)); have F6 := Aside0.mk (Fr.grown_new F5.out hg6 (fun k e_ => by injection e_ with e_; have := own_ge R5.out gr2 rfl; have := F1.out.size; omega)); have hp6 := P6.out; rw [← HP.out] at hp6; have hq6 := R6.out; rw [← HQ.out] at hq6; have CP6 := Aside0.mk (Fr.C_own (tG := 93) (G := G) (base := base) hp6 (by decide) (fun _ hk => hk.1.1)); have CQ6 := Aside0.mk (Fr.C_own (tG := 93) (G := G) (base := base) hq6 (by decide) (fun _ hk => hk.1)); clear hp6 hq6 hw hR6 hg6 hc5 hf5) | (go_at_call 97; have _t := tok7; refine calls_of_args (args' := #[.pointer (some ⟨G, 0, none⟩), .slice (some ⟨gr1, 0, none⟩) p.length cp1, .slice (some ⟨gr2, 0, none⟩) q.length cp2]) (by rw [HP.out, HQ.out, List.length_set, List.length_set]) ?_; refine (spec_l4Build_less.calls G base ins ov g2 (some ⟨gr1, 0, none⟩) (some ⟨gr2, 0, none⟩) cp1 cp2 p q w6 (Nat.le_trans hb F6.out.size) B6.out CP6.out CQ6.out hi0 hi1 L2 (by rw [HP.out, List.length_set]; omega) (by rw [HP.out, HQ.out, List.length_set, List.length_set]; exact HBL.out)).mono ?_; rintro e w7 ⟨rfl, hbd, hf⟩; rw [show p.length = a.length by rw [HP.out, List.length_set]] at hbd ⊢; rw [HZ.out]; have B7 := Aside0.mk hbd; have F7 := Aside0.mk (F6.out.trans hf); have hs7 := F7.out.size; clear tok7 hbd hf))
 go_ret
 rw [HT.out]
 exact ⟨_, rfl, B7.out.alloc _, Kd.R_lower (R_one w7 3 (fun k => k ≠ G) z (by omega)) hs7, F7.out.alloc _⟩

theorem spec_l4Build_two.calls (G base : Nat) (ins : Int) (ov : Value) (g : List S93) (op : Int) (A1 A2 : Option Addr) (c1 c2 : Nat) (a b : List Int) (w : World) (hop : twoOp op = true) (hb : base ≤ w.heap.size) (HBD : Bd 85 G base ins ov w g) (ha : (∀ W', Fr 93 G base w W' → Kd.C (Kd.int .i64) W' A1 a.length a)) (hb2 : (∀ W', Fr 93 G base w W' → Kd.C (Kd.int .i64) W' A2 b.length b)) (hi0 : 0 ≤ ins) (hi1 : ins ≤ 1000000) (hl : g.length ≤ 900000) (hlm : g.length ≤ 800000) (hal : a.length ≤ 50) (hal1 : 1 ≤ a.length) (hc1 : a.length ≤ c1) (hc2 : b.length ≤ c2) (hbl : b.length = a.length) :
 Calls Try.prog 64 #[.pointer (some ⟨G, 0, none⟩), .int .i64 op, .slice A1 a.length c1, .slice A2 b.length c2] w fun e w' => ∃ v : Value, e = .returned v ∧ Bd 85 G base ins ov w' (twoN ins op a b g).1 ∧ Kd.R (Kd.int .i64) 3 w' w.heap.size (fun k => k ≠ G) v (twoN ins op a b g).2 ∧ Fr 93 G base w w' := by
 have h : op = 3 ∨ op = 4 ∨ op = 5 ∨ op = 8 ∨ op = 9 ∨ op = 10 ∨ op = 14 ∨ op = 15 ∨ op = 16 ∨ op = 17 ∨ op = 18 := by unfold twoOp at hop; simp only [Bool.or_eq_true, beq_iff_eq] at hop; omega
 clear hop
 rcases h with rfl | rfl | rfl | rfl | rfl | rfl | rfl | rfl | rfl | rfl | rfl
 ·exact spec_l4Build_two_3.calls G base ins ov g A1 A2 c1 c2 a b w hb HBD ha hb2 hi0 hi1 hl hlm hal hal1 hc1 hc2 hbl
 ·exact spec_l4Build_two_4.calls G base ins ov g A1 A2 c1 c2 a b w hb HBD ha hb2 hi0 hi1 hl hlm hal hal1 hc1 hc2 hbl
 ·exact spec_l4Build_two_5.calls G base ins ov g A1 A2 c1 c2 a b w hb HBD ha hb2 hi0 hi1 hl hlm hal hal1 hc1 hc2 hbl
 ·exact spec_l4Build_two_8.calls G base ins ov g A1 A2 c1 c2 a b w hb HBD ha hb2 hi0 hi1 hl hlm hal hal1 hc1 hc2 hbl
 ·exact spec_l4Build_two_9.calls G base ins ov g A1 A2 c1 c2 a b w hb HBD ha hb2 hi0 hi1 hl hlm hal hal1 hc1 hc2 hbl
 ·exact spec_l4Build_two_10.calls G base ins ov g A1 A2 c1 c2 a b w hb HBD ha hb2 hi0 hi1 hl hlm hal hal1 hc1 hc2 hbl
 ·exact spec_l4Build_two_14.calls G base ins ov g A1 A2 c1 c2 a b w hb HBD ha hb2 hi0 hi1 hl hlm hal hal1 hc1 hc2 hbl
 ·exact spec_l4Build_two_15.calls G base ins ov g A1 A2 c1 c2 a b w hb HBD ha hb2 hi0 hi1 hl hlm hal hal1 hc1 hc2 hbl
 ·exact spec_l4Build_two_16.calls G base ins ov g A1 A2 c1 c2 a b w hb HBD ha hb2 hi0 hi1 hl hlm hal hal1 hc1 hc2 hbl
 ·exact spec_l4Build_two_17.calls G base ins ov g A1 A2 c1 c2 a b w hb HBD ha hb2 hi0 hi1 hl hlm hal hal1 hc1 hc2 hbl
 ·exact spec_l4Build_two_18.calls G base ins ov g A1 A2 c1 c2 a b w hb HBD ha hb2 hi0 hi1 hl hlm hal hal1 hc1 hc2 hbl

end Go.Proofs.Ytckgeanmljmhfaa.X
