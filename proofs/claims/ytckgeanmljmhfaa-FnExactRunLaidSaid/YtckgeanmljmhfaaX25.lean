/- Each Go function as a Lean function, with the proof that the call comes to just its answer; or a law's row out of its pure statement. Conditions: the arguments are of their kinds. Written by this session's program wip/xp/xp.sh. -/
import Derived.Test.YtckgeanmljmhfaaX0
import Derived.Test.YtckgeanmljmhfaaX4
import Derived.StillTailTactics
import Derived.Lib.SliceRun
namespace Go.Proofs.Ytckgeanmljmhfaa.X
open Go.RowKit Go.Proofs.YtckgeanmljmhfaaW.PrintWords Go.Proofs.YtckgeanmljmhfaaW.PrintLast Go.Proofs.YtckgeanmljmhfaaW.PrintMore
attribute [local go_sem] max2_int min2_int max_two min_two max_three min_three max_four min_four   -- for this text's walks alone
set_option linter.unusedVariables false
set_option linter.unusedSimpArgs false

/-! ### impl_isPlain_1: function 74 -/
def impl_isPlain_1.f (a0_0 : Int) (a0_1 : Int) : Option (Bool) := if a0_0 = 6 then (some true) else (if a0_0 = 7 then (some true) else (if a0_0 = 11 then (some true) else (some (a0_0 == 12))))
set_option maxHeartbeats 8000000 in
set_option maxRecDepth 100000 in
theorem impl_isPlain_1.calls (a0_0 : Int) (a0_1 : Int) (r : Bool) (w : World) (h : impl_isPlain_1.f a0_0 a0_1 = some r) :
 Calls Try.prog 74 #[.agg #[.int .i64 a0_0, .int .u64 a0_1]] w fun e w' => e = .returned (.bool r) ∧ Below w.heap.size w w' := by
 have hu63 := Try.underlying63
 have HB := Aside0.mk (Below.refl w.heap.size w)
 have H : (if a0_0 = 6 then (some true) else (if a0_0 = 7 then (some true) else (if a0_0 = 11 then (some true) else (some (a0_0 == 12))))) = some r := h
 clear h
 by_cases c2 : a0_0 = 6
 ·rw [if_pos c2] at H
 have c2b0 : (a0_0 == 6) = true := beq_iff_eq.mpr c2
 have c2b1 : (a0_0 != 6) = false := bne_eq_false_iff_eq.mpr c2
 clear c2
 obtain rfl := Option.some.inj H
 go_enter Try.func74, Try.ntmps74
 go_wp2_with (first | ((with_reducible refine gate_dst (N := 1) rfl ?_); refine box_event ?hg (N := 1) ?hd (cs := #[.int .i64 a0_0, .int .u64 a0_1]) (t := 63) ?hr ?_; (case hd => rfl); (case hg => rfl); (case hr => first | (go_simp; done) | (go_simp; rfl)); intro gb201 hg w3 hbox hb; have n0_ := Aside0.mk (below_step (qB) hb); have n1_ := Aside0.mk (hbox); have n2_ := Aside0.mk ((by rw [hg]; exact (below_size (qB)) : w.heap.size ≤ gb201)); have n3_ := Aside0.mk ((by rw [hg]; exact (below_size (qB)) : w.heap.size ≤ gb201)); clear HB; have HB := n0_; have BK201 := n1_; have GW201 := n2_; have GE201 := n3_; clear n0_ n1_ n2_ n3_; clear hb hbox hg; have hcz4_0 : w3.cell? ⟨gb201, 0, none⟩ = some (.int .i64 a0_0) := (blk_cell BK201.out 0).trans rfl; have hcz4_1 : w3.cell? ⟨gb201, 1, none⟩ = some (.int .u64 a0_1) := (blk_cell BK201.out 1).trans rfl; have hfz4_0 := blk_frozen BK201.out 0; have hfz4_1 := blk_frozen BK201.out 1))
 go_ret
 exact ⟨qE, qB⟩
 ·rw [if_neg c2] at H
 have c2b0 : (a0_0 == 6) = false := beq_eq_false_iff_ne.mpr c2
 have c2b1 : (a0_0 != 6) = true := bne_iff_ne.mpr c2
 by_cases c5 : a0_0 = 7
 ·rw [if_pos c5] at H
   have c5b0 : (a0_0 == 7) = true := beq_iff_eq.mpr c5
   have c5b1 : (a0_0 != 7) = false := bne_eq_false_iff_eq.mpr c5
   clear c5
   obtain rfl := Option.some.inj H
   go_enter Try.func74, Try.ntmps74
   go_wp2_with (first | ((with_reducible refine gate_dst (N := 1) rfl ?_); refine box_event ?hg (N := 1) ?hd (cs := #[.int .i64 a0_0, .int .u64 a0_1]) (t := 63) ?hr ?_; (case hd => rfl); (case hg => rfl); (case hr => first | (go_simp; done) | (go_simp; rfl)); intro gb201 hg w6 hbox hb; have n0_ := Aside0.mk (below_step (qB) hb); have n1_ := Aside0.mk (hbox); have n2_ := Aside0.mk ((by rw [hg]; exact (below_size (qB)) : w.heap.size ≤ gb201)); have n3_ := Aside0.mk ((by rw [hg]; exact (below_size (qB)) : w.heap.size ≤ gb201)); clear HB; have HB := n0_; have BK201 := n1_; have GW201 := n2_; have GE201 := n3_; clear n0_ n1_ n2_ n3_; clear hb hbox hg; have hcz7_0 : w6.cell? ⟨gb201, 0, none⟩ = some (.int .i64 a0_0) := (blk_cell BK201.out 0).trans rfl; have hcz7_1 : w6.cell? ⟨gb201, 1, none⟩ = some (.int .u64 a0_1) := (blk_cell BK201.out 1).trans rfl; have hfz7_0 := blk_frozen BK201.out 0; have hfz7_1 := blk_frozen BK201.out 1))
   go_ret
   exact ⟨qE, qB⟩
 ·rw [if_neg c5] at H
   have c5b0 : (a0_0 == 7) = false := beq_eq_false_iff_ne.mpr c5
   have c5b1 : (a0_0 != 7) = true := bne_iff_ne.mpr c5
   by_cases c8 : a0_0 = 11
   ·rw [if_pos c8] at H
  have c8b0 : (a0_0 == 11) = true := beq_iff_eq.mpr c8
  have c8b1 : (a0_0 != 11) = false := bne_eq_false_iff_eq.mpr c8
  clear c8
  obtain rfl := Option.some.inj H
  go_enter Try.func74, Try.ntmps74
  go_wp2_with (first | ((with_reducible refine gate_dst (N := 1) rfl ?_); refine box_event ?hg (N := 1) ?hd (cs := #[.int .i64 a0_0, .int .u64 a0_1]) (t := 63) ?hr ?_; (case hd => rfl); (case hg => rfl); (case hr => first | (go_simp; done) | (go_simp; rfl)); intro gb201 hg w9 hbox hb; have n0_ := Aside0.mk (below_step (qB) hb); have n1_ := Aside0.mk (hbox); have n2_ := Aside0.mk ((by rw [hg]; exact (below_size (qB)) : w.heap.size ≤ gb201)); have n3_ := Aside0.mk ((by rw [hg]; exact (below_size (qB)) : w.heap.size ≤ gb201)); clear HB; have HB := n0_; have BK201 := n1_; have GW201 := n2_; have GE201 := n3_; clear n0_ n1_ n2_ n3_; clear hb hbox hg; have hcz10_0 : w9.cell? ⟨gb201, 0, none⟩ = some (.int .i64 a0_0) := (blk_cell BK201.out 0).trans rfl; have hcz10_1 : w9.cell? ⟨gb201, 1, none⟩ = some (.int .u64 a0_1) := (blk_cell BK201.out 1).trans rfl; have hfz10_0 := blk_frozen BK201.out 0; have hfz10_1 := blk_frozen BK201.out 1))
  go_ret
  exact ⟨qE, qB⟩
   ·rw [if_neg c8] at H
  have c8b0 : (a0_0 == 11) = false := beq_eq_false_iff_ne.mpr c8
  have c8b1 : (a0_0 != 11) = true := bne_iff_ne.mpr c8
  obtain rfl := Option.some.inj H
  go_enter Try.func74, Try.ntmps74
  go_wp2_with (first | ((with_reducible refine gate_dst (N := 1) rfl ?_); refine box_event ?hg (N := 1) ?hd (cs := #[.int .i64 a0_0, .int .u64 a0_1]) (t := 63) ?hr ?_; (case hd => rfl); (case hg => rfl); (case hr => first | (go_simp; done) | (go_simp; rfl)); intro gb201 hg w11 hbox hb; have n0_ := Aside0.mk (below_step (qB) hb); have n1_ := Aside0.mk (hbox); have n2_ := Aside0.mk ((by rw [hg]; exact (below_size (qB)) : w.heap.size ≤ gb201)); have n3_ := Aside0.mk ((by rw [hg]; exact (below_size (qB)) : w.heap.size ≤ gb201)); clear HB; have HB := n0_; have BK201 := n1_; have GW201 := n2_; have GE201 := n3_; clear n0_ n1_ n2_ n3_; clear hb hbox hg; have hcz12_0 : w11.cell? ⟨gb201, 0, none⟩ = some (.int .i64 a0_0) := (blk_cell BK201.out 0).trans rfl; have hcz12_1 : w11.cell? ⟨gb201, 1, none⟩ = some (.int .u64 a0_1) := (blk_cell BK201.out 1).trans rfl; have hfz12_0 := blk_frozen BK201.out 0; have hfz12_1 := blk_frozen BK201.out 1))
  go_ret
  exact ⟨qE, qB⟩


-- HAND
/-! ### impl_isPlain_any: the contract of function 73 at function 74 -/
/-- One of the four operators that are not translated. -/
def notPlain (x : S63) : Bool := decide (x.f0 = 6 ∨ x.f0 = 7 ∨ x.f0 = 11 ∨ x.f0 = 12)
/-- 'slices.ContainsFunc(t, func(x Node) bool { .. })': is there a node of the four operators that are not translated? -/
def impl_isPlain_any.f (l : List S63) : Option (Bool) := some (l.any notPlain)
theorem impl_isPlain_any.one (a b : Int) : impl_isPlain_1.f a b = some (notPlain ⟨a, b⟩) := by
 show _ = some (decide (a = 6 ∨ a = 7 ∨ a = 11 ∨ a = 12))
 unfold impl_isPlain_1.f
 by_cases h1 : a = 6
 ·rw [if_pos h1]; simp [h1]
 ·by_cases h2 : a = 7
 ·rw [if_neg h1, if_pos h2]; simp [h2]
 ·by_cases h3 : a = 11
   ·rw [if_neg h1, if_neg h2, if_pos h3]; simp [h3]
   ·rw [if_neg h1, if_neg h2, if_neg h3]; congr 1; rw [Bool.eq_iff_iff]; simp [h1, h2, h3]
set_option maxHeartbeats 2000000 in
theorem impl_isPlain_any.index (A0 : Option Addr) (c0 : Nat) (l0 : List S63) (w : World) (hr0 : Kd.C k63 w A0 l0.length l0) (hc0 : l0.length ≤ c0) :
 Calls Try.prog 100 #[.slice A0 l0.length c0, .func (.func 74) #[] #[]] w
   fun e w' => (∃ n : Int, e = .returned (.int .i64 n) ∧ decide (n ≥ 0) = l0.any notPlain) ∧ Below w.heap.size w w' := by
 have hm := hr0.2.1
 have HR := Aside0.mk hr0
 clear hr0
 go_enter Try.func100, Try.ntmps100
 go_wp2
 go_loopg [5, 8] l0.length (fun gg _ s8 wr => ∃ kk : Nat, kk ≤ l0.length ∧ l0.length - kk ≤ gg ∧ s8 = .int .i64 kk ∧ Aside0 (Below w.heap.size w wr) ∧ Aside0 ((l0.take kk).any notPlain = false))
 case atStart => exact ⟨0, Nat.zero_le _, by omega, rfl, ⟨Below.refl _ _⟩, ⟨rfl⟩⟩
 case round =>
 obtain ⟨kk, hkk, hg, rfl, HB, HA⟩ := hrel
 by_cases hlt : kk < l0.length
 ·have hltz : (kk : Int) < (l0.length : Int) := by omega
   obtain ⟨ad, e, hx0, hx1⟩ := at_T63 HR.out (kk : Int) (by omega) hltz
   cases e
   replace hx0 := (HB.out.cell (World.block_lt_of_cell? w _ hx0)).trans hx0
   replace hx1 := (HB.out.cell (World.block_lt_of_cell? w _ hx1)).trans hx1
   obtain ⟨y, hy⟩ : ∃ y, rd_T63 l0 (kk : Int) = y := ⟨_, rfl⟩
   rw [hy] at hx0 hx1
   rw [Int.toNat_natCast] at hx0 hx1
   have HY := Aside0.mk hy
   clear hy
   have hone := fun W => impl_isPlain_1.calls y.f0 y.f1 _ W (impl_isPlain_any.one y.f0 y.f1)
   have hget : rd_T63 l0 (kk : Int) = l0[kk] := by unfold rd_T63; rw [Int.toNat_natCast, List.getD_eq_getElem?_getD, List.getElem?_eq_getElem hlt]; rfl
   have HG := Aside0.mk (hget.symm.trans HY.out)
   clear hget HY
   obtain ⟨q, hq⟩ : ∃ q, notPlain y = q := ⟨_, rfl⟩
   rw [hq] at hone
   have HQ := Aside0.mk hq
   clear hq
   cases q with
   | true =>
  go_wp2_with (go_at_call 74; refine (hone _).mono ?_; rintro e w' ⟨rfl, hb⟩; have HB2 := Aside0.mk (below_step HB.out hb); clear hb)
  go_ret
  exact ⟨⟨_, rfl, by rw [decide_eq_true (by omega)]; symm; rw [List.any_eq_true]; exact ⟨l0[kk], List.getElem_mem hlt, by rw [HG.out]; exact HQ.out⟩⟩, HB2.out⟩
   | false =>
  go_wp2_with (go_at_call 74; refine (hone _).mono ?_; rintro e w' ⟨rfl, hb⟩; have HB2 := Aside0.mk (below_step HB.out hb); clear hb)
  go_roundg (l0.length - (kk + 1))
  case measure => omega
  case rel => exact ⟨kk + 1, by omega, by omega, by go_num, HB2, ⟨by rw [List.take_add_one, List.any_append, HA.out, List.getElem?_eq_getElem hlt, Option.toList_some, HG.out]; simp only [List.any_cons, List.any_nil, HQ.out]; rfl⟩⟩
 ·have hltz : ¬ (kk : Int) < (l0.length : Int) := by omega
   obtain rfl : kk = l0.length := by omega
   go_wp2
   go_ret
   exact ⟨⟨_, rfl, by have := HA.out; rw [List.take_length] at this; rw [this]; rfl⟩, HB.out⟩
theorem impl_isPlain_any.calls (A0 : Option Addr) (c0 : Nat) (l0 : List S63) (r : Bool) (w : World) (hr0 : Kd.C k63 w A0 l0.length l0) (hc0 : l0.length ≤ c0)
 (h : impl_isPlain_any.f l0 = some r) :
 Calls Try.prog 73 #[.slice A0 l0.length c0, .func (.func 74) #[] #[]] w
   fun e w' => e = .returned (.bool r) ∧ Below w.heap.size w w' := by
 obtain rfl := Option.some.inj h
 have hI := impl_isPlain_any.index A0 c0 l0 w hr0 hc0
 clear hr0 h
 generalize hb : l0.any notPlain = b at hI ⊢
 clear hb
 go_enter Try.func73, Try.ntmps73
 go_wp2_with (go_at_call 100; refine hI.mono ?_; rintro e w' ⟨⟨n, rfl, hn⟩, hb⟩; have HN := Aside0.mk hn; have HB := Aside0.mk hb; clear hn hb)
 go_ret
 exact ⟨by have h1 := HN.out; simp only [ge_iff_le] at h1; first | rfl | (rw [h1]; rfl) | rw [h1], HB.out⟩


/-! ### impl_isPlain: function 40 -/
def impl_isPlain.f (l0 : List (S63)) : Option (Bool) := (impl_isPlain_any.f l0).bind fun t202 => (some (!t202))
set_option maxHeartbeats 8000000 in
set_option maxRecDepth 100000 in
theorem impl_isPlain.calls (A0 : Option Addr) (c0 : Nat) (l0 : List (S63)) (r : Bool) (w : World) (hr0 : Kd.C k63 w A0 l0.length l0) (hc0 : l0.length ≤ c0) (h : impl_isPlain.f l0 = some r) :
 Calls Try.prog 40 #[.slice A0 l0.length c0] w fun e w' => e = .returned (.bool r) ∧ Below w.heap.size w w' := by
 have HR0 := Aside0.mk hr0
 have HC0 := Aside0.mk hc0
 clear hr0 hc0
 have HB := Aside0.mk (Below.refl w.heap.size w)
 have H : ((impl_isPlain_any.f l0).bind fun t202 => (some (!t202))) = some r := h
 clear h
 replace H := Option.bind_eq_some_iff.mp H
 obtain ⟨t202, A20, H⟩ := H
 replace H : (some (!t202)) = some r := H
 have A2 := Aside0.mk A20
 clear A20
 obtain rfl := Option.some.inj H
 go_enter Try.func40, Try.ntmps40
 go_wp2_with (first | ((with_reducible refine gate_callee (f := 73) rfl ?_); refine goesL_ (some 4) rfl rfl Try.func73 (by kernel_rfl) rfl #[.slice A0 l0.length c0, .func (.func 74) #[] #[]] rfl qG ?_; (with_reducible refine (impl_isPlain_any.calls _ _ l0  t202 _ ?side1 ?side2 A2.out).mono ?_); (case side1 => exact qC HR0.out); (case side2 => exact HC0.out); rintro e w3 ⟨rfl, hb⟩; refine ⟨_, rfl, ?_⟩; have n0_ := Aside0.mk (below_step (qB) hb); clear HB; have HB := n0_; clear n0_; (try clear hb); (try clear hb2); (try clear hk); (try clear hi)))
 go_ret
 exact ⟨qE, qB⟩

/-! ### impl_Circuit_wires: function 81 -/
def impl_Circuit_wires.f (a0_0 : Int) (l0_1 : List (S93)) (l0_2 : List Int) : Option (Int) := some (wrap64 (a0_0 + (l0_1.length : Int)))
set_option maxHeartbeats 8000000 in
set_option maxRecDepth 100000 in
theorem impl_Circuit_wires.calls (a0_0 : Int) (A0_1 : Option Addr) (c0_1 : Nat) (l0_1 : List (S93)) (A0_2 : Option Addr) (c0_2 : Nat) (l0_2 : List Int) (r : Int) (w : World) (hr0_1 : Kd.C k93 w A0_1 l0_1.length l0_1) (hc0_1 : l0_1.length ≤ c0_1) (hr0_2 : Kd.C (Kd.int .i64) w A0_2 l0_2.length l0_2) (hc0_2 : l0_2.length ≤ c0_2) (h : impl_Circuit_wires.f a0_0 l0_1 l0_2 = some r) :
 Calls Try.prog 81 #[.agg #[.int .i64 a0_0, .slice A0_1 l0_1.length c0_1, .slice A0_2 l0_2.length c0_2]] w fun e w' => e = .returned (.int .i64 r) ∧ Below w.heap.size w w' := by
 have hu27 := Try.underlying27
 have HR0_1 := Aside0.mk hr0_1
 have HC0_1 := Aside0.mk hc0_1
 clear hr0_1 hc0_1
 have HR0_2 := Aside0.mk hr0_2
 have HC0_2 := Aside0.mk hc0_2
 clear hr0_2 hc0_2
 have HB := Aside0.mk (Below.refl w.heap.size w)
 have H : (some (wrap64 (a0_0 + (l0_1.length : Int)))) = some r := h
 clear h
 obtain rfl := Option.some.inj H
 go_enter Try.func81, Try.ntmps81
 go_wp2_with (first | ((with_reducible refine gate_dst (N := 1) rfl ?_); refine box_event ?hg (N := 1) ?hd (cs := #[.int .i64 a0_0, .slice A0_1 l0_1.length c0_1, .slice A0_2 l0_2.length c0_2]) (t := 27) ?hr ?_; (case hd => rfl); (case hg => rfl); (case hr => first | (go_simp; done) | (go_simp; rfl)); intro gb203 hg w2 hbox hb; have n0_ := Aside0.mk (below_step (qB) hb); have n1_ := Aside0.mk (hbox); have n2_ := Aside0.mk ((by rw [hg]; exact (below_size (qB)) : w.heap.size ≤ gb203)); have n3_ := Aside0.mk ((by rw [hg]; exact (below_size (qB)) : w.heap.size ≤ gb203)); clear HB; have HB := n0_; have BK203 := n1_; have GW203 := n2_; have GE203 := n3_; clear n0_ n1_ n2_ n3_; clear hb hbox hg; have hcz3_0 : w2.cell? ⟨gb203, 0, none⟩ = some (.int .i64 a0_0) := (blk_cell BK203.out 0).trans rfl; have hcz3_1 : w2.cell? ⟨gb203, 1, none⟩ = some (.slice A0_1 l0_1.length c0_1) := (blk_cell BK203.out 1).trans rfl; have hcz3_2 : w2.cell? ⟨gb203, 2, none⟩ = some (.slice A0_2 l0_2.length c0_2) := (blk_cell BK203.out 2).trans rfl; have hfz3_0 := blk_frozen BK203.out 0; have hfz3_1 := blk_frozen BK203.out 1; have hfz3_2 := blk_frozen BK203.out 2))
 go_ret
 exact ⟨qE, qB⟩


-- HAND
/-! ### impl_Circuit_put: function 101 -/
-- IMPORT Derived.StillTailTactics
set_option maxHeartbeats 8000000 in
set_option maxRecDepth 100000 in
/-- A gate that is put: its wire, and the circuit behind it. -/
theorem impl_Circuit_put.calls (G base : Nat) (ins : Int) (ov : Value) (g g' : List S93) (a1 a2 a3 n : Int) (w : World) (hb : base ≤ w.heap.size) (HBD : Bd 27 G base ins ov w g)
 (hi0 : 0 ≤ ins) (hi1 : ins ≤ 1000000) (hl : g.length ≤ 1000000) (hn : n = ins + (g.length : Int)) (hg' : g' = g ++ [⟨a1, a2, a3⟩]) :
 Calls Try.prog 101 #[.pointer (some ⟨G, 0, none⟩), .int .i64 a1, .int .i64 a2, .int .i64 a3] w fun e w' => e = .returned (.int .i64 n) ∧ Bd 27 G base ins ov w' g' ∧ Fr 93 G base w w' := by
 obtain ⟨gv, hG, hR⟩ := HBD
 have hGlt := blk_lt hG
 obtain ⟨A0, c0, rfl⟩ := Kd.R_slice hR
 have hne := Kd.R_ne hR hG (by decide)
 have hty := Kd.R_typed hR
 have hbs := Kd.R_base hR
 have hlt := Kd.R_lt hR
 have hc0 : w.cell? ⟨G, 0, none⟩ = some (.int .i64 ins) := (blk_cell hG 0).trans rfl
 have hc1 : w.cell? ⟨G, 1, none⟩ = some (.slice A0 g.length c0) := (blk_cell hG 1).trans rfl
 have hc2 : w.cell? ⟨G, 2, none⟩ = some ov := (blk_cell hG 2).trans rfl
 have HR := Aside0.mk hR
 have HG := Aside0.mk hG
 have HNE := Aside0.mk hne
 have HTY := Aside0.mk hty
 have HBS := Aside0.mk hbs
 have HN := Aside0.mk hn
 have HG' := Aside0.mk hg'
 clear hR hG hne hty hbs hlt hn hg'
 have hu1 := Try.underlying24
 have hu2 := Try.underlying93
 have hu3 := Try.underlying27
 have hu4 := Try.underlying27
 go_enter Try.func101, Try.ntmps101
 go_wp2_with (first
 | ((with_reducible refine gate_builtin (b := .append) (xs := #[.tmp 13, .tmp 18]) rfl ?_); at_builtin; refine Kd.R_append k93 (w0 := w) base rfl (.tmp 13) (.tmp 18) 24 93 (.agg #[.int .i64 0, .int .i64 0, .int .i64 0]) 24 rfl Try.underlying24 info_gate rfl (by decide) (by omega) _ g ⟨a1, a2, a3⟩ [.int .i64 a1, .int .i64 a2, .int .i64 a3] (fun _ => True) (fun _ => False) rfl (by first | (go_simp; done) | (go_simp; rfl)) ?aP (fun _ hk => hk.elim) ?aF ?aO ?aB ?aS ?aL ?_; (case aP => exact k93_mkM _ _ _ ⟨a1, a2, a3⟩); (case aF => exact fun _ _ => trivial); (case aO => (with_reducible repeat (first | apply Kd.R_alloc | apply Kd.R_drewN | apply Kd.R_drew)); exact HR.out); (case aB => repeat (first | (with_reducible first | exact Below.refl _ _ | apply below_alloc | apply pw_below_drewN | apply below_drew1))); (case aS => first | omega | (simp; omega)); (case aL => first | omega | (simp; omega)); intro v3 w3 hv hb3 hg_ ha_; obtain ⟨A3, c3, rfl⟩ := Kd.R_slice hv; have hG3 := (hg_.block G hGlt HNE.out).trans HG.out; have hd0 : w3.cell? ⟨G, 0, none⟩ = some (.int .i64 ins) := (blk_cell hG3 0).trans rfl; have hd1 : w3.cell? ⟨G, 1, none⟩ = some (.slice A0 g.length c0) := (blk_cell hG3 1).trans rfl; have hd2 : w3.cell? ⟨G, 2, none⟩ = some ov := (blk_cell hG3 2).trans rfl; have hd3 : w3.frozen? ⟨G, 1, none⟩ = false := blk_frozen hG3 1; have HV3 := Aside0.mk hv; have HG3 := Aside0.mk hG3; have HF3 := Aside0.mk (Fr.grown_own (tG := 93) (G := G) (base := base) hg_ (fun k e_ => ⟨HBS.out k e_, HTY.out k e_⟩)); clear hv hb3 hg_ ha_ hG3 hc0 hc1 hc2)
 | (go_at_call 81; go_in))
 go_ret
 refine ⟨congrArg (fun z => Ending.returned (.int .i64 z)) (by have := HN.out; omega), ?_, ?_⟩
 ·rw [HG'.out]
 refine ⟨.slice A3 (g.length + 1) c3, blk_alloc (by simpa using blk_set HG3.out 1 (.slice A3 (g.length + 1) c3)) _, ?_⟩
 have h5 := HV3.out
 rw [List.length_append, List.length_singleton] at h5
 exact Kd.R_alloc (Kd.R_set h5 HG3.out (by decide) 1 _) _
 ·exact (HF3.out.trans (Fr.setG (Fr.refl _ _ _ _) 1 _)).alloc _


-- HAND
/-! ### impl_Circuit_putBits: function 75 -/
-- IMPORT Derived.StillTailTactics
set_option maxHeartbeats 16000000 in
set_option maxRecDepth 100000 in
/-- A constant gate for each bit. -/
theorem impl_Circuit_putBits.calls (G base : Nat) (ins : Int) (ov : Value) (g : List S93) (n : Int) (wd : Nat) (w : World) (hb : base ≤ w.heap.size) (HBD : Bd 27 G base ins ov w g) (hi0 : 0 ≤ ins) (hi1 : ins ≤ 1000000) (hl : g.length ≤ 900000) (hal : wd ≤ 10000) (hn0 : 0 ≤ n) (hn1 : n < 18446744073709551616) :
 Calls Try.prog 75 #[.pointer (some ⟨G, 0, none⟩), .int .i64 wd, .int .u64 n] w fun e w' => ∃ v : Value, e = .returned v ∧ Bd 27 G base ins ov w' (emitN ins (fun i => ⟨1, bitv n i, 0⟩) g wd).1 ∧ Kd.R (Kd.int .i64) 3 w' w.heap.size (fun k => k ≠ G) v (emitN ins (fun i => ⟨1, bitv n i, 0⟩) g wd).2 ∧ Fr 93 G base w w' := by
 have hGlt : G < w.heap.size := by obtain ⟨gv, hG, _⟩ := HBD; exact blk_lt hG
 have HBD0 := Aside0.mk HBD
 clear HBD
 have hu1 := Try.underlying25
 go_enter Try.func75, Try.ntmps75
 go_wp2
 have HV0 := Aside0.mk (R_fresh w 3 (fun k => k ≠ G) (by omega))
 have HBD1 := Aside0.mk (HBD0.out.alloc (.cells #[] 3))
 have HF1 := Aside0.mk ((Fr.refl 93 G base w).alloc (.cells #[] 3))
 go_loopg [7, 11] wd (fun gg so si wr => ∃ kk : Nat, kk ≤ wd ∧ wd - kk ≤ gg ∧ si = .int .i64 kk ∧ Aside0 (Bd 27 G base ins ov wr (emitN ins (fun i => ⟨1, bitv n i, 0⟩) g kk).1) ∧ Aside0 (Kd.R (Kd.int .i64) 3 wr w.heap.size (fun k => k ≠ G) so (emitN ins (fun i => ⟨1, bitv n i, 0⟩) g kk).2) ∧ Aside0 (Fr 93 G base w wr))
 case atStart => exact ⟨0, Nat.zero_le _, by omega, rfl, HBD1, HV0, HF1⟩
 case round =>
 clear HBD0 HBD1 HV0 HF1
 obtain ⟨kk, hkk, hg, rfl, HBD, HV, HF⟩ := hrel
 have hlen := emitN_len ins (fun i => ⟨1, bitv n i, 0⟩) g kk
 by_cases hlt : kk < wd
 ·have hltz : (kk : Int) < (wd : Int) := by omega
   have hs : emitN ins (fun i => ⟨1, bitv n i, 0⟩) g (kk + 1) = ((emitN ins (fun i => ⟨1, bitv n i, 0⟩) g kk).1 ++ [⟨1, bitv n kk, 0⟩], (emitN ins (fun i => ⟨1, bitv n i, 0⟩) g kk).2 ++ [(ins + ((emitN ins (fun i => ⟨1, bitv n i, 0⟩) g kk).1.length : Int))]) := rfl
   obtain ⟨gs, hgs⟩ : ∃ q, (emitN ins (fun i => ⟨1, bitv n i, 0⟩) g kk).1 = q := ⟨_, rfl⟩
   obtain ⟨os, hos⟩ : ∃ q, (emitN ins (fun i => ⟨1, bitv n i, 0⟩) g kk).2 = q := ⟨_, rfl⟩
   rw [hgs, hos] at hlen hs
   rw [hgs] at HBD
   rw [hos] at HV
   clear hgs hos
   obtain ⟨hl1, hl2⟩ := hlen
   have hol : os.length ≤ 10000 := by omega
   have hgl : gs.length ≤ 950000 := by omega
   obtain ⟨d, hd⟩ : ∃ d, ins + (gs.length : Int) = d := ⟨_, rfl⟩
   rw [hd] at hs
   have hd0 : 0 ≤ d := by omega
   have hd1 : d ≤ 2000000 := by omega
   clear hl1 hl2
   obtain ⟨x, hx⟩ : ∃ x, bitv n kk = x := ⟨_, rfl⟩
   rw [hx] at hs
   have HX := Aside0.mk hx
   clear hx
   obtain ⟨g1, hg1⟩ : ∃ q, q = gs ++ [(⟨1, x, 0⟩ : S93)] := ⟨_, rfl⟩
   rw [← hg1] at hs
   have N0 := Aside0.mk (show d = ins + (gs.length : Int) by omega)
   have L0 : gs.length ≤ 1000000 := by omega
   have G1 := Aside0.mk hg1
   have tok1 : True := trivial
   have HS := Aside0.mk hs
   clear hs hd hg1
   clear hgl
   go_wp2_with (first
     | (go_at_call 101; have _t := tok1; refine calls_of_args (args' := #[.pointer (some ⟨G, 0, none⟩), .int .i64 1, .int .i64 x, .int .i64 0]) (by rw [← HX.out]; rfl) ?_; refine (impl_Circuit_put.calls G base ins ov gs g1 1 x 0 d _ (Nat.le_trans hb HF.out.size) HBD.out hi0 hi1 L0 N0.out G1.out).mono ?_; rintro e w1 ⟨rfl, hbd, hf⟩; have B1 := Aside0.mk hbd; have F1 := Aside0.mk (HF.out.trans hf); have V1 := Aside0.mk (Fr.R hf HV.out (by decide) (fun _ hk => hk)); clear tok1 hbd hf)
     | ((with_reducible refine gate_builtin (b := .append) (xs := #[.tmp 14, .tmp 22]) rfl ?_); at_builtin; refine Kd.R_append (Kd.int .i64) (w0 := w1) w.heap.size rfl (.tmp 14) (.tmp 22) 25 3 (.int .i64 0) 8 rfl Try.underlying25 info_int rfl (by decide) (by omega) _ os d [.int .i64 d] (fun k => k ≠ G) (fun _ => False) rfl (by first | (go_simp; done) | (go_simp; rfl)) ?aP (fun _ hk => hk.elim) ?aF ?aO ?aB ?aS ?aL ?_; (case aP => exact rfl); (case aF => intro k hk; have hsz_ := F1.out.size; omega); (case aO => exact V1.out); (case aB => exact Below.refl _ _); (case aS => exact F1.out.size); (case aL => omega); intro v22 w22 hv _ hg_ _; have V22 := Aside0.mk hv; have B22 := Aside0.mk (Bd.grown B1.out hg_ (Kd.R_typed V1.out) (by decide) (by decide)); have F22 := Aside0.mk (Fr.grown_new F1.out hg_ (own_ge V1.out)); clear hv hg_))
   go_roundg (wd - (kk + 1))
   case measure => omega
   case rel => exact ⟨kk + 1, by omega, by omega, by go_num, by rw [HS.out]; exact B22, by rw [HS.out]; exact V22, F22⟩
 ·have hltz : ¬ (kk : Int) < (wd : Int) := by omega
   obtain rfl : kk = wd := by omega
   go_wp2
   go_ret
   exact ⟨_, rfl, HBD.out, HV.out, HF.out⟩


-- HAND
/-! ### impl_Circuit_putNots: function 76 -/
-- IMPORT Derived.StillTailTactics
set_option maxHeartbeats 16000000 in
set_option maxRecDepth 100000 in
/-- A gate that denies, for each wire. -/
theorem impl_Circuit_putNots.calls (G base : Nat) (ins : Int) (ov : Value) (g : List S93) (A1 : Option Addr) (c1 : Nat) (a : List Int) (w : World) (hb : base ≤ w.heap.size) (HBD : Bd 27 G base ins ov w g) (ha : (∀ W', Fr 93 G base w W' → Kd.C (Kd.int .i64) W' A1 a.length a)) (hi0 : 0 ≤ ins) (hi1 : ins ≤ 1000000) (hl : g.length ≤ 900000) (hal : a.length ≤ 10000) :
 Calls Try.prog 76 #[.pointer (some ⟨G, 0, none⟩), .slice A1 a.length c1] w fun e w' => ∃ v : Value, e = .returned v ∧ Bd 27 G base ins ov w' (emitN ins (fun i => ⟨2, rd a i, 0⟩) g a.length).1 ∧ Kd.R (Kd.int .i64) 3 w' w.heap.size (fun k => k ≠ G) v (emitN ins (fun i => ⟨2, rd a i, 0⟩) g a.length).2 ∧ Fr 93 G base w w' := by
 have hGlt : G < w.heap.size := by obtain ⟨gv, hG, _⟩ := HBD; exact blk_lt hG
 have HBD0 := Aside0.mk HBD
 have Hha := Aside0.mk ha
 clear HBD ha
 have hu1 := Try.underlying25
 go_enter Try.func76, Try.ntmps76
 go_wp2
 have HV0 := Aside0.mk (R_fresh w 3 (fun k => k ≠ G) (by omega))
 have HBD1 := Aside0.mk (HBD0.out.alloc (.cells #[] 3))
 have HF1 := Aside0.mk ((Fr.refl 93 G base w).alloc (.cells #[] 3))
 go_loopg [5, 11] a.length (fun gg so si wr => ∃ kk : Nat, kk ≤ a.length ∧ a.length - kk ≤ gg ∧ si = .int .i64 kk ∧ Aside0 (Bd 27 G base ins ov wr (emitN ins (fun i => ⟨2, rd a i, 0⟩) g kk).1) ∧ Aside0 (Kd.R (Kd.int .i64) 3 wr w.heap.size (fun k => k ≠ G) so (emitN ins (fun i => ⟨2, rd a i, 0⟩) g kk).2) ∧ Aside0 (Fr 93 G base w wr))
 case atStart => exact ⟨0, Nat.zero_le _, by omega, rfl, HBD1, HV0, HF1⟩
 case round =>
 clear HBD0 HBD1 HV0 HF1
 obtain ⟨kk, hkk, hg, rfl, HBD, HV, HF⟩ := hrel
 have hlen := emitN_len ins (fun i => ⟨2, rd a i, 0⟩) g kk
 by_cases hlt : kk < a.length
 ·have hltz : (kk : Int) < (a.length : Int) := by omega
   have hs : emitN ins (fun i => ⟨2, rd a i, 0⟩) g (kk + 1) = ((emitN ins (fun i => ⟨2, rd a i, 0⟩) g kk).1 ++ [⟨2, rd a kk, 0⟩], (emitN ins (fun i => ⟨2, rd a i, 0⟩) g kk).2 ++ [(ins + ((emitN ins (fun i => ⟨2, rd a i, 0⟩) g kk).1.length : Int))]) := rfl
   obtain ⟨gs, hgs⟩ : ∃ q, (emitN ins (fun i => ⟨2, rd a i, 0⟩) g kk).1 = q := ⟨_, rfl⟩
   obtain ⟨os, hos⟩ : ∃ q, (emitN ins (fun i => ⟨2, rd a i, 0⟩) g kk).2 = q := ⟨_, rfl⟩
   rw [hgs, hos] at hlen hs
   rw [hgs] at HBD
   rw [hos] at HV
   clear hgs hos
   obtain ⟨hl1, hl2⟩ := hlen
   have hol : os.length ≤ 10000 := by omega
   have hgl : gs.length ≤ 950000 := by omega
   obtain ⟨d, hd⟩ : ∃ d, ins + (gs.length : Int) = d := ⟨_, rfl⟩
   rw [hd] at hs
   have hd0 : 0 ≤ d := by omega
   have hd1 : d ≤ 2000000 := by omega
   clear hl1 hl2
   obtain ⟨ad, e, hxa⟩ := Kd.at_int (Hha.out _ HF.out) (kk : Int) (by omega) hltz
   cases e
   rw [Int.toNat_natCast] at hxa
   obtain ⟨x, hx⟩ : ∃ x, rd a kk = x := ⟨_, rfl⟩
   rw [hx] at hs hxa
   have HX := Aside0.mk hx
   clear hx
   obtain ⟨g1, hg1⟩ : ∃ q, q = gs ++ [(⟨2, x, 0⟩ : S93)] := ⟨_, rfl⟩
   rw [← hg1] at hs
   have N0 := Aside0.mk (show d = ins + (gs.length : Int) by omega)
   have L0 : gs.length ≤ 1000000 := by omega
   have G1 := Aside0.mk hg1
   have tok1 : True := trivial
   have HS := Aside0.mk hs
   clear hs hd hg1
   clear hgl
   go_wp2_with (first
     | (go_at_call 101; have _t := tok1; refine (impl_Circuit_put.calls G base ins ov gs g1 2 x 0 d _ (Nat.le_trans hb HF.out.size) HBD.out hi0 hi1 L0 N0.out G1.out).mono ?_; rintro e w1 ⟨rfl, hbd, hf⟩; have B1 := Aside0.mk hbd; have F1 := Aside0.mk (HF.out.trans hf); have V1 := Aside0.mk (Fr.R hf HV.out (by decide) (fun _ hk => hk)); clear tok1 hbd hf hxa; have hxa := Fr.cellAt F1.out Hha.out hlt HX.out)
     | ((with_reducible refine gate_builtin (b := .append) (xs := #[.tmp 15, .tmp 19]) rfl ?_); at_builtin; refine Kd.R_append (Kd.int .i64) (w0 := w1) w.heap.size rfl (.tmp 15) (.tmp 19) 25 3 (.int .i64 0) 8 rfl Try.underlying25 info_int rfl (by decide) (by omega) _ os d [.int .i64 d] (fun k => k ≠ G) (fun _ => False) rfl (by first | (go_simp; done) | (go_simp; rfl)) ?aP (fun _ hk => hk.elim) ?aF ?aO ?aB ?aS ?aL ?_; (case aP => exact rfl); (case aF => intro k hk; have hsz_ := F1.out.size; omega); (case aO => exact V1.out); (case aB => exact Below.refl _ _); (case aS => exact F1.out.size); (case aL => omega); intro v22 w22 hv _ hg_ _; have V22 := Aside0.mk hv; have B22 := Aside0.mk (Bd.grown B1.out hg_ (Kd.R_typed V1.out) (by decide) (by decide)); have F22 := Aside0.mk (Fr.grown_new F1.out hg_ (own_ge V1.out)); clear hv hg_ hxa; have hxa := Fr.cellAt F22.out Hha.out hlt HX.out))
   go_roundg (a.length - (kk + 1))
   case measure => omega
   case rel => exact ⟨kk + 1, by omega, by omega, by go_num, by rw [HS.out]; exact B22, by rw [HS.out]; exact V22, F22⟩
 ·have hltz : ¬ (kk : Int) < (a.length : Int) := by omega
   obtain rfl : kk = a.length := by omega
   go_wp2
   go_ret
   exact ⟨_, rfl, HBD.out, HV.out, HF.out⟩


-- IMPORT Derived.Lib.SliceRun
/-! ### slices_Clone_int: function 78 -/
def slices_Clone_int.f (l0 : List Int) : Option (List Int) := (some (([] : List Int) : List Int)).bind fun y204 => (if y204.length + l0.length < 17592186044416 then (some (y204 ++ l0)) else (none))
set_option maxHeartbeats 8000000 in
set_option maxRecDepth 100000 in
theorem slices_Clone_int.calls (A0 : Option Addr) (c0 : Nat) (l0 : List Int) (r : List Int) (w : World) (hr0 : Kd.C (Kd.int .i64) w A0 l0.length l0) (hc0 : l0.length ≤ c0) (h : slices_Clone_int.f l0 = some r) :
 Calls Try.prog 78 #[.slice A0 l0.length c0] w fun e w' => ∃ v0_ : Value, e = .returned (v0_) ∧ Kd.R (Kd.int .i64) 3 w' w.heap.size (fun _ => True) v0_ r ∧ Below w.heap.size w w' := by
 have HR0 := Aside0.mk hr0
 have HC0 := Aside0.mk hc0
 clear hr0 hc0
 have HB := Aside0.mk (Below.refl w.heap.size w)
 have H : ((some (([] : List Int) : List Int)).bind fun y204 => (if y204.length + l0.length < 17592186044416 then (some (y204 ++ l0)) else (none))) = some r := h
 clear h
 rcases A0 with _ | ad_
 ·have hl0 : l0 = [] := by
   rcases l0 with _ | ⟨x, s⟩
   ·rfl
   ·obtain ⟨ad, e_, _⟩ := HR0.out.2.2 (by simp)
  cases e_
 obtain rfl : r = [] := by
   subst hl0
   simpa using H.symm
 subst hl0
 have heq_ := fun w : World => Go.Lib.run_eql_slice_nil (P := Try.prog) w 25 3 none 0 c0 0 0 Try.underlying25
 simp only [Option.isNone_none] at heq_
 clear H
 go_enter Try.func78, Try.ntmps78
 go_wp2
 go_ret
 exact ⟨.slice none 0 0, rfl, Kd.R_nil _ _ _ _ _, HB.out⟩
 ·skip
 have heq_ := fun w : World => Go.Lib.run_eql_slice_nil (P := Try.prog) w 25 3 (some ad_) l0.length c0 0 0 Try.underlying25
 simp only [Option.isNone_some] at heq_
 obtain ⟨y204, hy204⟩ : ∃ y_ : List Int, y_ = (([] : List Int)) := ⟨_, rfl⟩
 replace H : (if y204.length + l0.length < 17592186044416 then (some (y204 ++ l0)) else (none)) = some r := qY hy204 H
 have Ny204 := Aside0.mk hy204
 clear hy204
 by_cases c2 : y204.length + l0.length < 17592186044416
 ·rw [if_pos c2] at H
   have LMc2 := Aside0.mk c2
   clear c2
   obtain ⟨y207, hy207⟩ : ∃ y_ : List Int, y_ = (y204 ++ l0) := ⟨_, rfl⟩
   replace H : (some y207) = some r := qY hy207 H
   have Ny207 := Aside0.mk hy207
   clear hy207
   obtain rfl := Option.some.inj H
   go_enter Try.func78, Try.ntmps78
   go_wp2_with (first | ((with_reducible refine gate_dst (N := 5) rfl ?_); refine Kd.R_lit (Kd.int .i64) _ 3 ?hg (N := 5) ?hd (xs := ([] : List Int)) (inner := []) (ok := fun _ => True) (okp := fun _ => True) ?hr ?hp (fun _ hk => hk) trivial (Below.refl _ _) (Nat.le_refl _) (by simp) ?_; (case hd => rfl); (case hg => rfl); (case hr => first | (go_simp; done) | (go_simp; rfl)); (case hp => exact (Reps.none _ _)); intro v205 w3 ho4 hb hg_ hnew_; clear hg_ hnew_; (first | rw [← Ny204.out] at ho4 | (simp only [Int.reduceToNat] at ho4; rw [← Ny204.out] at ho4)); have n0_ := Aside0.mk (Kd.R_lower ho4 (below_size (qB))); have n1_ := Aside0.mk (below_step (qB) hb); clear HB; have HO206 := n0_; have HB := n1_; clear n0_ n1_; clear hb ho4) | ((with_reducible refine gate_builtin (b := .append) (xs := #[.tmp 5, .tmp 6]) rfl ?_); at_builtin; refine Kd.R_append_rows (Kd.int .i64) (w0 := w) w.heap.size rfl (.tmp 5) (.tmp 6) 25 3 (.int .i64 0) 8 rfl Try.underlying25 info3 rfl (by decide) (by omega) v205 y204 l0 _ _ _ (fun _ => True) (fun _ => False) rfl rfl ?aO ?aR (fun _ _ h => h) (fun _ h => h.elim) ?aF ?aB ?aS ?aL ?_; (case aR => exact qC (Kd.C_below HR0.out HB.out)); (case aB => exact (qB)); (case aF => exact (fun _ _ => trivial)); (case aO => exact (qR HO206.out)); (case aS => exact (below_size (qB))); (case aL => have := LMc2.out; omega); intro v208 w5 ho hb hg hat; rw [← Ny207.out] at ho; have n0_ := Aside0.mk (hb); have n1_ := Aside0.mk (ho); clear HB; clear HO206; have HB := n0_; have HO209 := n1_; clear n0_ n1_; clear ho hb hg hat))
   go_ret
   exact ⟨_, qE, qR HO209.out, qB⟩
 ·rw [if_neg c2] at H
   exact absurd H (by simp)


-- HAND
/-! ### impl_Circuit_putEach: function 102 -/
-- IMPORT Derived.StillTailTactics
set_option maxHeartbeats 16000000 in
set_option maxRecDepth 100000 in
/-- A gate for each position. -/
theorem impl_Circuit_putEach.calls (G base : Nat) (ins : Int) (ov : Value) (g : List S93) (kd : Int) (A1 A2 : Option Addr) (c1 c2 : Nat) (a b : List Int) (w : World) (hb : base ≤ w.heap.size) (HBD : Bd 27 G base ins ov w g) (ha : (∀ W', Fr 93 G base w W' → Kd.C (Kd.int .i64) W' A1 a.length a)) (hb2 : (∀ W', Fr 93 G base w W' → Kd.C (Kd.int .i64) W' A2 b.length b)) (hi0 : 0 ≤ ins) (hi1 : ins ≤ 1000000) (hl : g.length ≤ 900000) (hal : a.length ≤ 10000) (hbl : b.length = a.length) :
 Calls Try.prog 102 #[.pointer (some ⟨G, 0, none⟩), .int .i64 kd, .slice A1 a.length c1, .slice A2 b.length c2] w fun e w' => ∃ v : Value, e = .returned v ∧ Bd 27 G base ins ov w' (emitN ins (fun i => ⟨kd, rd a i, rd b i⟩) g a.length).1 ∧ Kd.R (Kd.int .i64) 3 w' w.heap.size (fun k => k ≠ G) v (emitN ins (fun i => ⟨kd, rd a i, rd b i⟩) g a.length).2 ∧ Fr 93 G base w w' := by
 have hGlt : G < w.heap.size := by obtain ⟨gv, hG, _⟩ := HBD; exact blk_lt hG
 have HBD0 := Aside0.mk HBD
 have Hha := Aside0.mk ha
 have Hhb2 := Aside0.mk hb2
 have HBL := Aside0.mk hbl
 clear HBD ha hb2 hbl
 have hu1 := Try.underlying25
 go_enter Try.func102, Try.ntmps102
 go_wp2
 have HV0 := Aside0.mk (R_fresh w 3 (fun k => k ≠ G) (by omega))
 have HBD1 := Aside0.mk (HBD0.out.alloc (.cells #[] 3))
 have HF1 := Aside0.mk ((Fr.refl 93 G base w).alloc (.cells #[] 3))
 go_loopg [9, 14] a.length (fun gg so si wr => ∃ kk : Nat, kk ≤ a.length ∧ a.length - kk ≤ gg ∧ si = .int .i64 kk ∧ Aside0 (Bd 27 G base ins ov wr (emitN ins (fun i => ⟨kd, rd a i, rd b i⟩) g kk).1) ∧ Aside0 (Kd.R (Kd.int .i64) 3 wr w.heap.size (fun k => k ≠ G) so (emitN ins (fun i => ⟨kd, rd a i, rd b i⟩) g kk).2) ∧ Aside0 (Fr 93 G base w wr))
 case atStart => exact ⟨0, Nat.zero_le _, by omega, rfl, HBD1, HV0, HF1⟩
 case round =>
 clear HBD0 HBD1 HV0 HF1
 obtain ⟨kk, hkk, hg, rfl, HBD, HV, HF⟩ := hrel
 have hlen := emitN_len ins (fun i => ⟨kd, rd a i, rd b i⟩) g kk
 by_cases hlt : kk < a.length
 ·have hltz : (kk : Int) < (a.length : Int) := by omega
   have hs : emitN ins (fun i => ⟨kd, rd a i, rd b i⟩) g (kk + 1) = ((emitN ins (fun i => ⟨kd, rd a i, rd b i⟩) g kk).1 ++ [⟨kd, rd a kk, rd b kk⟩], (emitN ins (fun i => ⟨kd, rd a i, rd b i⟩) g kk).2 ++ [(ins + ((emitN ins (fun i => ⟨kd, rd a i, rd b i⟩) g kk).1.length : Int))]) := rfl
   obtain ⟨gs, hgs⟩ : ∃ q, (emitN ins (fun i => ⟨kd, rd a i, rd b i⟩) g kk).1 = q := ⟨_, rfl⟩
   obtain ⟨os, hos⟩ : ∃ q, (emitN ins (fun i => ⟨kd, rd a i, rd b i⟩) g kk).2 = q := ⟨_, rfl⟩
   rw [hgs, hos] at hlen hs
   rw [hgs] at HBD
   rw [hos] at HV
   clear hgs hos
   obtain ⟨hl1, hl2⟩ := hlen
   have hol : os.length ≤ 10000 := by omega
   have hgl : gs.length ≤ 950000 := by omega
   obtain ⟨d, hd⟩ : ∃ d, ins + (gs.length : Int) = d := ⟨_, rfl⟩
   rw [hd] at hs
   have hd0 : 0 ≤ d := by omega
   have hd1 : d ≤ 2000000 := by omega
   clear hl1 hl2
   obtain ⟨ad, e, hxa⟩ := Kd.at_int (Hha.out _ HF.out) (kk : Int) (by omega) hltz
   cases e
   rw [Int.toNat_natCast] at hxa
   have hltb : kk < b.length := by have := HBL.out; omega
   obtain ⟨ae, e, hya⟩ := Kd.at_int (Hhb2.out _ HF.out) (kk : Int) (by omega) (by omega)
   cases e
   rw [Int.toNat_natCast] at hya
   obtain ⟨x, hx⟩ : ∃ x, rd a kk = x := ⟨_, rfl⟩
   rw [hx] at hs hxa
   obtain ⟨y, hy⟩ : ∃ y, rd b kk = y := ⟨_, rfl⟩
   rw [hy] at hs hya
   have HX := Aside0.mk hx
   have HY := Aside0.mk hy
   clear hx hy
   obtain ⟨g1, hg1⟩ : ∃ q, q = gs ++ [(⟨kd, x, y⟩ : S93)] := ⟨_, rfl⟩
   rw [← hg1] at hs
   have N0 := Aside0.mk (show d = ins + (gs.length : Int) by omega)
   have L0 : gs.length ≤ 1000000 := by omega
   have G1 := Aside0.mk hg1
   have tok1 : True := trivial
   have HS := Aside0.mk hs
   clear hs hd hg1
   clear hgl
   go_wp2
   have BD1 := Aside0.mk (HBD.out.drew)
   have FD1 := Aside0.mk (HF.out.drew)
   have VD1 := Aside0.mk (Kd.R_drew HV.out)
   go_region_held3 (fun w' => w'.cell? (ad.add kk) = some (.int .i64 x) ∧ w'.cell? (ae.add kk) = some (.int .i64 y)) (first | exact ⟨hxa, hya⟩ | exact ⟨bd_cell_new hxa _, bd_cell_new hya _⟩ | go_keep) (first | (go_at_call 101; have _t := tok1; refine (impl_Circuit_put.calls G base ins ov gs g1 kd x y d _ (Nat.le_trans hb FD1.out.size) BD1.out hi0 hi1 L0 N0.out G1.out).mono ?_; rintro e w1 ⟨rfl, hbd, hf⟩; have B1 := Aside0.mk hbd; have F1 := Aside0.mk (FD1.out.trans hf); have V1 := Aside0.mk (Fr.R hf VD1.out (by decide) (fun _ hk => hk)); clear tok1 hbd hf hxa hya; have hxa := Fr.cellAt F1.out Hha.out hlt HX.out; have hya := Fr.cellAt F1.out Hhb2.out hltb HY.out) | (refine Kd.R_append_step (Kd.int .i64) (w0 := w1) w.heap.size (by rfl) (.tmp 17) (.tmp 29) 25 3 (.int .i64 0) 8 rfl Try.underlying25 info_int rfl (by decide) (by omega) _ os d [.int .i64 d] (fun k => k ≠ G) (fun _ => False) rfl (by first | (go_simp; done) | (go_simp; rfl)) ?aP (fun _ hk => hk.elim) ?aF ?aO ?aB ?aS ?aL ?_; (case aP => exact rfl); (case aF => intro k hk; have hsz_ := F1.out.size; omega); (case aO => exact V1.out); (case aB => exact Below.refl _ _); (case aS => exact F1.out.size); (case aL => omega); intro v22 w22 hv _ hg_ _; have V22 := Aside0.mk hv; have B22 := Aside0.mk (Bd.grown B1.out hg_ (Kd.R_typed V1.out) (by decide) (by decide)); have F22 := Aside0.mk (Fr.grown_new F1.out hg_ (own_ge V1.out)); clear hv hg_ hxa hya; have hxa := Fr.cellAt F22.out Hha.out hlt HX.out; have hya := Fr.cellAt F22.out Hhb2.out hltb HY.out))
   go_wp2
   go_roundg (a.length - (kk + 1))
   case measure => omega
   case rel => exact ⟨kk + 1, by omega, by omega, by go_num, by rw [HS.out]; exact B22, by rw [HS.out]; exact V22, F22⟩
 ·have hltz : ¬ (kk : Int) < (a.length : Int) := by omega
   obtain rfl : kk = a.length := by omega
   go_wp2
   go_ret
   exact ⟨_, rfl, HBD.out, HV.out, HF.out⟩


-- HAND
/-! ### impl_Circuit_putAdd: function 103 -/
-- IMPORT Derived.StillTailTactics
set_option maxHeartbeats 16000000 in
set_option maxRecDepth 100000 in
/-- An adder that is put: its wires, and the circuit behind it. -/
theorem impl_Circuit_putAdd.calls (G base : Nat) (ins : Int) (ov : Value) (g : List S93) (A1 A2 : Option Addr) (c1 c2 : Nat) (a b : List Int) (cr : Int) (w : World) (hb : base ≤ w.heap.size) (HBD : Bd 27 G base ins ov w g) (ha : (∀ W', Fr 93 G base w W' → Kd.C (Kd.int .i64) W' A1 a.length a)) (hb2 : (∀ W', Fr 93 G base w W' → Kd.C (Kd.int .i64) W' A2 b.length b)) (hi0 : 0 ≤ ins) (hi1 : ins ≤ 1000000) (hl : g.length ≤ 900000) (hal : a.length ≤ 10000) (hbl : b.length = a.length) :
 Calls Try.prog 103 #[.pointer (some ⟨G, 0, none⟩), .slice A1 a.length c1, .slice A2 b.length c2, .int .i64 cr] w fun e w' => ∃ v : Value, e = .returned v ∧ Bd 27 G base ins ov w' (addN ins a b cr g a.length).1 ∧ Kd.R (Kd.int .i64) 3 w' w.heap.size (fun k => k ≠ G) v (addN ins a b cr g a.length).2.1 ∧ Fr 93 G base w w' := by
 have hGlt : G < w.heap.size := by obtain ⟨gv, hG, _⟩ := HBD; exact blk_lt hG
 have HBD0 := Aside0.mk HBD
 have Hha := Aside0.mk ha
 have Hhb2 := Aside0.mk hb2
 have HBL := Aside0.mk hbl
 clear HBD ha hb2 hbl
 have hu1 := Try.underlying25
 go_enter Try.func103, Try.ntmps103
 go_wp2
 have HV0 := Aside0.mk (R_fresh w 3 (fun k => k ≠ G) (by omega))
 have HBD1 := Aside0.mk (HBD0.out.alloc (.cells #[] 3))
 have HF1 := Aside0.mk ((Fr.refl 93 G base w).alloc (.cells #[] 3))
 go_loopg [3, 9, 17] a.length (fun gg s3 so si wr => ∃ kk : Nat, kk ≤ a.length ∧ a.length - kk ≤ gg ∧ s3 = .int .i64 (addN ins a b cr g kk).2.2 ∧ si = .int .i64 kk ∧ Aside0 (Bd 27 G base ins ov wr (addN ins a b cr g kk).1) ∧ Aside0 (Kd.R (Kd.int .i64) 3 wr w.heap.size (fun k => k ≠ G) so (addN ins a b cr g kk).2.1) ∧ Aside0 (Fr 93 G base w wr))
 case atStart => exact ⟨0, Nat.zero_le _, by omega, rfl, rfl, HBD1, HV0, HF1⟩
 case round =>
 clear HBD0 HBD1 HV0 HF1
 obtain ⟨kk, hkk, hg, rfl, rfl, HBD, HV, HF⟩ := hrel
 have hlen := addN_len ins a b cr g kk
 by_cases hlt : kk < a.length
 ·have hltz : (kk : Int) < (a.length : Int) := by omega
   have hs : addN ins a b cr g (kk + 1) = ((addN ins a b cr g kk).1 ++ [⟨5, rd a kk, rd b kk⟩] ++ [⟨5, (ins + ((addN ins a b cr g kk).1.length : Int)), (addN ins a b cr g kk).2.2⟩] ++ [⟨3, rd a kk, rd b kk⟩] ++ [⟨3, (ins + ((addN ins a b cr g kk).1.length : Int)), (addN ins a b cr g kk).2.2⟩] ++ [⟨4, (ins + ((addN ins a b cr g kk).1.length : Int)) + 2, (ins + ((addN ins a b cr g kk).1.length : Int)) + 3⟩], (addN ins a b cr g kk).2.1 ++ [(ins + ((addN ins a b cr g kk).1.length : Int)) + 1], (ins + ((addN ins a b cr g kk).1.length : Int)) + 4) := rfl
   obtain ⟨gs, hgs⟩ : ∃ q, (addN ins a b cr g kk).1 = q := ⟨_, rfl⟩
   obtain ⟨os, hos⟩ : ∃ q, (addN ins a b cr g kk).2.1 = q := ⟨_, rfl⟩
   obtain ⟨cs, hcs⟩ : ∃ q, (addN ins a b cr g kk).2.2 = q := ⟨_, rfl⟩
   rw [hgs, hos] at hlen
   rw [hgs, hos, hcs] at hs
   rw [hgs] at HBD
   rw [hos] at HV
   rw [hcs]
   clear hgs hos hcs
   obtain ⟨hl1, hl2⟩ := hlen
   have hol : os.length ≤ 10000 := by omega
   have hgl : gs.length ≤ 950000 := by omega
   obtain ⟨d, hd⟩ : ∃ d, ins + (gs.length : Int) = d := ⟨_, rfl⟩
   rw [hd] at hs
   have hd0 : 0 ≤ d := by omega
   have hd1 : d ≤ 2000000 := by omega
   clear hl1 hl2
   obtain ⟨ad, e, hxa⟩ := Kd.at_int (Hha.out _ HF.out) (kk : Int) (by omega) hltz
   cases e
   rw [Int.toNat_natCast] at hxa
   have hltb : kk < b.length := by have := HBL.out; omega
   obtain ⟨ae, e, hya⟩ := Kd.at_int (Hhb2.out _ HF.out) (kk : Int) (by omega) (by omega)
   cases e
   rw [Int.toNat_natCast] at hya
   obtain ⟨x, hx⟩ : ∃ x, rd a kk = x := ⟨_, rfl⟩
   rw [hx] at hs hxa
   obtain ⟨y, hy⟩ : ∃ y, rd b kk = y := ⟨_, rfl⟩
   rw [hy] at hs hya
   have HX := Aside0.mk hx
   have HY := Aside0.mk hy
   clear hx hy
   obtain ⟨g1, hg1⟩ : ∃ q, q = gs ++ [(⟨5, x, y⟩ : S93)] := ⟨_, rfl⟩
   obtain ⟨g2, hg2⟩ : ∃ q, q = g1 ++ [(⟨5, d, cs⟩ : S93)] := ⟨_, rfl⟩
   obtain ⟨g3, hg3⟩ : ∃ q, q = g2 ++ [(⟨3, x, y⟩ : S93)] := ⟨_, rfl⟩
   obtain ⟨g4, hg4⟩ : ∃ q, q = g3 ++ [(⟨3, d, cs⟩ : S93)] := ⟨_, rfl⟩
   obtain ⟨g5, hg5⟩ : ∃ q, q = g4 ++ [(⟨4, (d + 2), (d + 3)⟩ : S93)] := ⟨_, rfl⟩
   rw [← hg1, ← hg2, ← hg3, ← hg4, ← hg5] at hs
   have n1 : (g1.length : Int) = gs.length + 1 := by rw [hg1]; simp; try omega
   have n2 : (g2.length : Int) = gs.length + 2 := by rw [hg2]; simp; try omega
   have n3 : (g3.length : Int) = gs.length + 3 := by rw [hg3]; simp; try omega
   have n4 : (g4.length : Int) = gs.length + 4 := by rw [hg4]; simp; try omega
   have N0 := Aside0.mk (show d = ins + (gs.length : Int) by omega)
   have L0 : gs.length ≤ 1000000 := by omega
   have N1 := Aside0.mk (show (d + 1) = ins + (g1.length : Int) by omega)
   have L1 : g1.length ≤ 1000000 := by omega
   have N2 := Aside0.mk (show (d + 2) = ins + (g2.length : Int) by omega)
   have L2 : g2.length ≤ 1000000 := by omega
   have N3 := Aside0.mk (show (d + 3) = ins + (g3.length : Int) by omega)
   have L3 : g3.length ≤ 1000000 := by omega
   have N4 := Aside0.mk (show (d + 4) = ins + (g4.length : Int) by omega)
   have L4 : g4.length ≤ 1000000 := by omega
   have G1 := Aside0.mk hg1
   have tok1 : True := trivial
   have G2 := Aside0.mk hg2
   have tok2 : True := trivial
   have G3 := Aside0.mk hg3
   have tok3 : True := trivial
   have G4 := Aside0.mk hg4
   have tok4 : True := trivial
   have G5 := Aside0.mk hg5
   have tok5 : True := trivial
   have HS := Aside0.mk hs
   clear hs hd hg1 hg2 hg3 hg4 hg5 n1 n2 n3 n4
   clear hgl
   go_wp2
   go_still_tail 9, (by kernel_rfl)
   change wpList _ _ _ _ _ wr.drew
   have BD1 := Aside0.mk (HBD.out.drew)
   have FD1 := Aside0.mk (HF.out.drew)
   have VD1 := Aside0.mk (Kd.R_drew HV.out)
   clear hxa hya
   generalize wr.drew = W1 at BD1 FD1 VD1 ⊢
   have hxa := Fr.cellAt FD1.out Hha.out hlt HX.out
   have hya := Fr.cellAt FD1.out Hhb2.out hltb HY.out
   go_wp2_with (first
     | (go_at_call 101; have _t := tok1; refine (impl_Circuit_put.calls G base ins ov gs g1 5 x y d _ (Nat.le_trans hb FD1.out.size) BD1.out hi0 hi1 L0 N0.out G1.out).mono ?_; rintro e w1 ⟨rfl, hbd, hf⟩; have B1 := Aside0.mk hbd; have F1 := Aside0.mk (FD1.out.trans hf); have V1 := Aside0.mk (Fr.R hf VD1.out (by decide) (fun _ hk => hk)); clear tok1 hbd hf hxa hya; have hxa := Fr.cellAt F1.out Hha.out hlt HX.out; have hya := Fr.cellAt F1.out Hhb2.out hltb HY.out)
     | (go_at_call 101; have _t := tok2; refine (impl_Circuit_put.calls G base ins ov g1 g2 5 d cs (d + 1) _ (Nat.le_trans hb F1.out.size) B1.out hi0 hi1 L1 N1.out G2.out).mono ?_; rintro e w2 ⟨rfl, hbd, hf⟩; have B2 := Aside0.mk hbd; have F2 := Aside0.mk (F1.out.trans hf); have V2 := Aside0.mk (Fr.R hf V1.out (by decide) (fun _ hk => hk)); clear tok2 hbd hf hxa hya; have hxa := Fr.cellAt F2.out Hha.out hlt HX.out; have hya := Fr.cellAt F2.out Hhb2.out hltb HY.out)
     | ((with_reducible refine gate_builtin (b := .append) (xs := #[.tmp 30, .tmp 35]) rfl ?_); at_builtin; refine Kd.R_append (Kd.int .i64) (w0 := w2) w.heap.size rfl (.tmp 30) (.tmp 35) 25 3 (.int .i64 0) 8 rfl Try.underlying25 info_int rfl (by decide) (by omega) _ os (d + 1) [.int .i64 (d + 1)] (fun k => k ≠ G) (fun _ => False) rfl (by first | (go_simp; done) | (go_simp; rfl)) ?aP (fun _ hk => hk.elim) ?aF ?aO ?aB ?aS ?aL ?_; (case aP => exact rfl); (case aF => intro k hk; have hsz_ := F2.out.size; omega); (case aO => exact V2.out); (case aB => exact Below.refl _ _); (case aS => exact F2.out.size); (case aL => omega); intro v22 w22 hv _ hg_ _; have V22 := Aside0.mk hv; have B22 := Aside0.mk (Bd.grown B2.out hg_ (Kd.R_typed V2.out) (by decide) (by decide)); have F22 := Aside0.mk (Fr.grown_new F2.out hg_ (own_ge V2.out)); clear hv hg_ hxa hya; have hxa := Fr.cellAt F22.out Hha.out hlt HX.out; have hya := Fr.cellAt F22.out Hhb2.out hltb HY.out))
   go_still_tail 9, (by kernel_rfl)
   change wpList _ _ _ _ _ w22.drew
   have BD2 := Aside0.mk (B22.out.drew)
   have FD2 := Aside0.mk (F22.out.drew)
   have VD2 := Aside0.mk (Kd.R_drew V22.out)
   clear hxa hya
   generalize w22.drew = W2 at BD2 FD2 VD2 ⊢
   have hxa := Fr.cellAt FD2.out Hha.out hlt HX.out
   have hya := Fr.cellAt FD2.out Hhb2.out hltb HY.out
   go_wp2_with (first
     | (go_at_call 101; have _t := tok3; refine (impl_Circuit_put.calls G base ins ov g2 g3 3 x y (d + 2) _ (Nat.le_trans hb FD2.out.size) BD2.out hi0 hi1 L2 N2.out G3.out).mono ?_; rintro e w3 ⟨rfl, hbd, hf⟩; have B3 := Aside0.mk hbd; have F3 := Aside0.mk (FD2.out.trans hf); have V3 := Aside0.mk (Fr.R hf VD2.out (by decide) (fun _ hk => hk)); clear tok3 hbd hf hxa hya; have hxa := Fr.cellAt F3.out Hha.out hlt HX.out; have hya := Fr.cellAt F3.out Hhb2.out hltb HY.out)
     | (go_at_call 101; have _t := tok4; refine (impl_Circuit_put.calls G base ins ov g3 g4 3 d cs (d + 3) _ (Nat.le_trans hb F3.out.size) B3.out hi0 hi1 L3 N3.out G4.out).mono ?_; rintro e w4 ⟨rfl, hbd, hf⟩; have B4 := Aside0.mk hbd; have F4 := Aside0.mk (F3.out.trans hf); have V4 := Aside0.mk (Fr.R hf V3.out (by decide) (fun _ hk => hk)); clear tok4 hbd hf hxa hya; have hxa := Fr.cellAt F4.out Hha.out hlt HX.out; have hya := Fr.cellAt F4.out Hhb2.out hltb HY.out)
     | (go_at_call 101; have _t := tok5; refine (impl_Circuit_put.calls G base ins ov g4 g5 4 (d + 2) (d + 3) (d + 4) _ (Nat.le_trans hb F4.out.size) B4.out hi0 hi1 L4 N4.out G5.out).mono ?_; rintro e w5 ⟨rfl, hbd, hf⟩; have B5 := Aside0.mk hbd; have F5 := Aside0.mk (F4.out.trans hf); have V5 := Aside0.mk (Fr.R hf V4.out (by decide) (fun _ hk => hk)); clear tok5 hbd hf hxa hya; have hxa := Fr.cellAt F5.out Hha.out hlt HX.out; have hya := Fr.cellAt F5.out Hhb2.out hltb HY.out))
   go_roundg (a.length - (kk + 1))
   case measure => omega
   case rel => exact ⟨kk + 1, by omega, by omega, by rw [HS.out], by go_num, by rw [HS.out]; exact B5, by rw [HS.out]; exact V5, F5⟩
 ·have hltz : ¬ (kk : Int) < (a.length : Int) := by omega
   obtain rfl : kk = a.length := by omega
   go_wp2
   go_ret
   exact ⟨_, rfl, HBD.out, HV.out, HF.out⟩

end Go.Proofs.Ytckgeanmljmhfaa.X
