/- Go functions as Lean functions, each with the proof that its call comes to just its answer. Conditions: the arguments are of their kinds. -/
import Derived.Test.YtimkjhdopncimaaX0
import Derived.Test.YtimkjhdopncimaaX28
import Derived.Test.YtimkjhdopncimaaX33
import Derived.StillTailTactics
import Derived.Test.YtimkjhdopncimaaX5
import Derived.Test.YtimkjhdopncimaaX8
namespace Go.Proofs.Ytimkjhdopncimaa.X
open Go.RowKit Go.Proofs.YtimkjhdopncimaaW.PrintWords Go.Proofs.YtimkjhdopncimaaW.PrintLast Go.Proofs.YtimkjhdopncimaaW.PrintMore
attribute [local go_sem] max2_int min2_int max_two min_two max_three min_three max_four min_four   -- for this text's walks alone
set_option linter.unusedVariables false
set_option linter.unusedSimpArgs false

-- HAND
/-! ### impl_Circuit_putAdd: function 63 -/
-- IMPORT Derived.StillTailTactics
set_option maxHeartbeats 16000000 in
set_option maxRecDepth 100000 in
/-- An adder that is put: its wires, and the circuit behind it. -/
theorem impl_Circuit_putAdd.calls (G base : Nat) (ins : Int) (ov : Value) (g : List S59) (A1 A2 : Option Addr) (c1 c2 : Nat) (a b : List Int) (cr : Int) (w : World) (hb : base ≤ w.heap.size) (HBD : Bd 30 G base ins ov w g) (ha : (∀ W', Fr 59 G base w W' → Kd.C (Kd.int .i64) W' A1 a.length a)) (hb2 : (∀ W', Fr 59 G base w W' → Kd.C (Kd.int .i64) W' A2 b.length b)) (hi0 : 0 ≤ ins) (hi1 : ins ≤ 1000000) (hl : g.length ≤ 900000) (hal : a.length ≤ 10000) (hbl : b.length = a.length) :
  Calls Try.prog 63 #[.pointer (some ⟨G, 0, none⟩), .slice A1 a.length c1, .slice A2 b.length c2, .int .i64 cr] w fun e w' => ∃ v : Value, e = .returned v ∧ Bd 30 G base ins ov w' (addN ins a b cr g a.length).1 ∧ Kd.R (Kd.int .i64) 3 w' w.heap.size (fun k => k ≠ G) v (addN ins a b cr g a.length).2.1 ∧ Fr 59 G base w w' := by
 have hGlt : G < w.heap.size := by obtain ⟨gv, hG, _⟩ := HBD; exact blk_lt hG
 have HBD0 := Aside0.mk HBD
 have Hha := Aside0.mk ha
 have Hhb2 := Aside0.mk hb2
 have HBL := Aside0.mk hbl
 clear HBD ha hb2 hbl
 have hu1 := Try.underlying23
 go_enter Try.func63, Try.ntmps63
 go_wp2
 have HV0 := Aside0.mk (R_fresh w 3 (fun k => k ≠ G) (by omega))
 have HBD1 := Aside0.mk (HBD0.out.alloc (.cells #[] 3))
 have HF1 := Aside0.mk ((Fr.refl 59 G base w).alloc (.cells #[] 3))
 go_loopg [3, 9, 17] a.length (fun gg s3 so si wr => ∃ kk : Nat, kk ≤ a.length ∧ a.length - kk ≤ gg ∧ s3 = .int .i64 (addN ins a b cr g kk).2.2 ∧ si = .int .i64 kk ∧ Aside0 (Bd 30 G base ins ov wr (addN ins a b cr g kk).1) ∧ Aside0 (Kd.R (Kd.int .i64) 3 wr w.heap.size (fun k => k ≠ G) so (addN ins a b cr g kk).2.1) ∧ Aside0 (Fr 59 G base w wr))
 case atStart => exact ⟨0, Nat.zero_le _, by omega, rfl, rfl, HBD1, HV0, HF1⟩
 case round =>
  clear HBD0 HBD1 HV0 HF1
  obtain ⟨kk, hkk, hg, rfl, rfl, HBD, HV, HF⟩ := hrel
  have hlen := addN_len ins a b cr g kk
  by_cases hlt : kk < a.length
  ·have hltz : (kk : Int) < (a.length : Int) := by omega
   have hs : addN ins a b cr g (kk + 1) = ((addN ins a b cr g kk).1 ++ [⟨5, rd a kk, rd b kk⟩] ++ [⟨5, (ins + ((addN ins a b cr g kk).1.length : Int)), (addN ins a b cr g kk).2.2⟩] ++ [⟨3, rd a kk, rd b kk⟩] ++ [⟨3, (ins + ((addN ins a b cr g kk).1.length : Int)), (addN ins a b cr g kk).2.2⟩] ++ [⟨4, (ins + ((addN ins a b cr g kk).1.length : Int)) + 2, (ins + ((addN ins a b cr g kk).1.length : Int)) + 3⟩], (addN ins a b cr g kk).2.1 ++ [(ins + ((addN ins a b cr g kk).1.length : Int)) + 1], (ins + ((addN ins a b cr g kk).1.length : Int)) + 4) := rfl
   obtain ⟨gs, hgs⟩ : ∃ q, (addN ins a b cr g kk).1 = q := ⟨_, rfl⟩
   obtain ⟨os, hos⟩ : ∃ q, (addN ins a b cr g kk).2.1 = q := ⟨_, rfl⟩
   obtain ⟨cs, hcs⟩ : ∃ q, (addN ins a b cr g kk).2.2 = q := ⟨_, rfl⟩
   rw [hgs, hos] at hlen
   rw [hgs, hos, hcs] at hs
   rw [hgs] at HBD
   rw [hos] at HV
   rw [hcs]
   clear hgs hos hcs
   obtain ⟨hl1, hl2⟩ := hlen
   have hol : os.length ≤ 10000 := by omega
   have hgl : gs.length ≤ 950000 := by omega
   obtain ⟨d, hd⟩ : ∃ d, ins + (gs.length : Int) = d := ⟨_, rfl⟩
   rw [hd] at hs
   have hd0 : 0 ≤ d := by omega
   have hd1 : d ≤ 2000000 := by omega
   clear hl1 hl2
   obtain ⟨ad, e, hxa⟩ := Kd.at_int (Hha.out _ HF.out) (kk : Int) (by omega) hltz
   cases e
   rw [Int.toNat_natCast] at hxa
   have hltb : kk < b.length := by have := HBL.out; omega
   obtain ⟨ae, e, hya⟩ := Kd.at_int (Hhb2.out _ HF.out) (kk : Int) (by omega) (by omega)
   cases e
   rw [Int.toNat_natCast] at hya
   obtain ⟨x, hx⟩ : ∃ x, rd a kk = x := ⟨_, rfl⟩
   rw [hx] at hs hxa
   obtain ⟨y, hy⟩ : ∃ y, rd b kk = y := ⟨_, rfl⟩
   rw [hy] at hs hya
   have HX := Aside0.mk hx
   have HY := Aside0.mk hy
   clear hx hy
   obtain ⟨g1, hg1⟩ : ∃ q, q = gs ++ [(⟨5, x, y⟩ : S59)] := ⟨_, rfl⟩
   obtain ⟨g2, hg2⟩ : ∃ q, q = g1 ++ [(⟨5, d, cs⟩ : S59)] := ⟨_, rfl⟩
   obtain ⟨g3, hg3⟩ : ∃ q, q = g2 ++ [(⟨3, x, y⟩ : S59)] := ⟨_, rfl⟩
   obtain ⟨g4, hg4⟩ : ∃ q, q = g3 ++ [(⟨3, d, cs⟩ : S59)] := ⟨_, rfl⟩
   obtain ⟨g5, hg5⟩ : ∃ q, q = g4 ++ [(⟨4, (d + 2), (d + 3)⟩ : S59)] := ⟨_, rfl⟩
   rw [← hg1, ← hg2, ← hg3, ← hg4, ← hg5] at hs
   have n1 : (g1.length : Int) = gs.length + 1 := by rw [hg1]; simp; try omega
   have n2 : (g2.length : Int) = gs.length + 2 := by rw [hg2]; simp; try omega
   have n3 : (g3.length : Int) = gs.length + 3 := by rw [hg3]; simp; try omega
   have n4 : (g4.length : Int) = gs.length + 4 := by rw [hg4]; simp; try omega
   have N0 := Aside0.mk (show d = ins + (gs.length : Int) by omega)
   have L0 : gs.length ≤ 1000000 := by omega
   have N1 := Aside0.mk (show (d + 1) = ins + (g1.length : Int) by omega)
   have L1 : g1.length ≤ 1000000 := by omega
   have N2 := Aside0.mk (show (d + 2) = ins + (g2.length : Int) by omega)
   have L2 : g2.length ≤ 1000000 := by omega
   have N3 := Aside0.mk (show (d + 3) = ins + (g3.length : Int) by omega)
   have L3 : g3.length ≤ 1000000 := by omega
   have N4 := Aside0.mk (show (d + 4) = ins + (g4.length : Int) by omega)
   have L4 : g4.length ≤ 1000000 := by omega
   have G1 := Aside0.mk hg1
   have tok1 : True := trivial
   have G2 := Aside0.mk hg2
   have tok2 : True := trivial
   have G3 := Aside0.mk hg3
   have tok3 : True := trivial
   have G4 := Aside0.mk hg4
   have tok4 : True := trivial
   have G5 := Aside0.mk hg5
   have tok5 : True := trivial
   have HS := Aside0.mk hs
   clear hs hd hg1 hg2 hg3 hg4 hg5 n1 n2 n3 n4
   clear hgl
   go_wp2
   go_still_tail 9, (by kernel_rfl)
   change wpList _ _ _ _ _ wr.drew
   have BD1 := Aside0.mk (HBD.out.drew)
   have FD1 := Aside0.mk (HF.out.drew)
   have VD1 := Aside0.mk (Kd.R_drew HV.out)
   clear hxa hya
   generalize wr.drew = W1 at BD1 FD1 VD1 ⊢
   have hxa := Fr.cellAt FD1.out Hha.out hlt HX.out
   have hya := Fr.cellAt FD1.out Hhb2.out hltb HY.out
   go_wp2_with (first
     | (go_at_call 83; have _t := tok1; refine (impl_Circuit_put.calls G base ins ov gs g1 5 x y d _ (Nat.le_trans hb FD1.out.size) BD1.out hi0 hi1 L0 N0.out G1.out).mono ?_; rintro e w1 ⟨rfl, hbd, hf⟩; have B1 := Aside0.mk hbd; have F1 := Aside0.mk (FD1.out.trans hf); have V1 := Aside0.mk (Fr.R hf VD1.out (by decide) (fun _ hk => hk)); clear tok1 hbd hf hxa hya; have hxa := Fr.cellAt F1.out Hha.out hlt HX.out; have hya := Fr.cellAt F1.out Hhb2.out hltb HY.out)
     | (go_at_call 83; have _t := tok2; refine (impl_Circuit_put.calls G base ins ov g1 g2 5 d cs (d + 1) _ (Nat.le_trans hb F1.out.size) B1.out hi0 hi1 L1 N1.out G2.out).mono ?_; rintro e w2 ⟨rfl, hbd, hf⟩; have B2 := Aside0.mk hbd; have F2 := Aside0.mk (F1.out.trans hf); have V2 := Aside0.mk (Fr.R hf V1.out (by decide) (fun _ hk => hk)); clear tok2 hbd hf hxa hya; have hxa := Fr.cellAt F2.out Hha.out hlt HX.out; have hya := Fr.cellAt F2.out Hhb2.out hltb HY.out)
     | ((with_reducible refine gate_builtin (b := .append) (xs := #[.tmp 30, .tmp 35]) rfl ?_); at_builtin; refine Kd.R_append (Kd.int .i64) (w0 := w2) w.heap.size rfl (.tmp 30) (.tmp 35) 23 3 (.int .i64 0) 8 rfl Try.underlying23 info_int rfl (by decide) (by omega) _ os (d + 1) [.int .i64 (d + 1)] (fun k => k ≠ G) (fun _ => False) rfl (by first | (go_simp; done) | (go_simp; rfl)) ?aP (fun _ hk => hk.elim) ?aF ?aO ?aB ?aS ?aL ?_; (case aP => exact rfl); (case aF => intro k hk; have hsz_ := F2.out.size; omega); (case aO => exact V2.out); (case aB => exact Below.refl _ _); (case aS => exact F2.out.size); (case aL => omega); intro v22 w22 hv _ hg_ _; have V22 := Aside0.mk hv; have B22 := Aside0.mk (Bd.grown B2.out hg_ (Kd.R_typed V2.out) (by decide) (by decide)); have F22 := Aside0.mk (Fr.grown_new F2.out hg_ (own_ge V2.out)); clear hv hg_ hxa hya; have hxa := Fr.cellAt F22.out Hha.out hlt HX.out; have hya := Fr.cellAt F22.out Hhb2.out hltb HY.out))
   go_still_tail 9, (by kernel_rfl)
   change wpList _ _ _ _ _ w22.drew
   have BD2 := Aside0.mk (B22.out.drew)
   have FD2 := Aside0.mk (F22.out.drew)
   have VD2 := Aside0.mk (Kd.R_drew V22.out)
   clear hxa hya
   generalize w22.drew = W2 at BD2 FD2 VD2 ⊢
   have hxa := Fr.cellAt FD2.out Hha.out hlt HX.out
   have hya := Fr.cellAt FD2.out Hhb2.out hltb HY.out
   go_wp2_with (first
     | (go_at_call 83; have _t := tok3; refine (impl_Circuit_put.calls G base ins ov g2 g3 3 x y (d + 2) _ (Nat.le_trans hb FD2.out.size) BD2.out hi0 hi1 L2 N2.out G3.out).mono ?_; rintro e w3 ⟨rfl, hbd, hf⟩; have B3 := Aside0.mk hbd; have F3 := Aside0.mk (FD2.out.trans hf); have V3 := Aside0.mk (Fr.R hf VD2.out (by decide) (fun _ hk => hk)); clear tok3 hbd hf hxa hya; have hxa := Fr.cellAt F3.out Hha.out hlt HX.out; have hya := Fr.cellAt F3.out Hhb2.out hltb HY.out)
     | (go_at_call 83; have _t := tok4; refine (impl_Circuit_put.calls G base ins ov g3 g4 3 d cs (d + 3) _ (Nat.le_trans hb F3.out.size) B3.out hi0 hi1 L3 N3.out G4.out).mono ?_; rintro e w4 ⟨rfl, hbd, hf⟩; have B4 := Aside0.mk hbd; have F4 := Aside0.mk (F3.out.trans hf); have V4 := Aside0.mk (Fr.R hf V3.out (by decide) (fun _ hk => hk)); clear tok4 hbd hf hxa hya; have hxa := Fr.cellAt F4.out Hha.out hlt HX.out; have hya := Fr.cellAt F4.out Hhb2.out hltb HY.out)
     | (go_at_call 83; have _t := tok5; refine (impl_Circuit_put.calls G base ins ov g4 g5 4 (d + 2) (d + 3) (d + 4) _ (Nat.le_trans hb F4.out.size) B4.out hi0 hi1 L4 N4.out G5.out).mono ?_; rintro e w5 ⟨rfl, hbd, hf⟩; have B5 := Aside0.mk hbd; have F5 := Aside0.mk (F4.out.trans hf); have V5 := Aside0.mk (Fr.R hf V4.out (by decide) (fun _ hk => hk)); clear tok5 hbd hf hxa hya; have hxa := Fr.cellAt F5.out Hha.out hlt HX.out; have hya := Fr.cellAt F5.out Hhb2.out hltb HY.out))
   go_roundg (a.length - (kk + 1))
   case measure => omega
   case rel => exact ⟨kk + 1, by omega, by omega, by rw [HS.out], by go_num, by rw [HS.out]; exact B5, by rw [HS.out]; exact V5, F5⟩
  ·have hltz : ¬ (kk : Int) < (a.length : Int) := by omega
   obtain rfl : kk = a.length := by omega
   go_wp2
   go_ret
   exact ⟨_, rfl, HBD.out, HV.out, HF.out⟩


-- HAND
/-! ### impl_AddGates: function 35 -/
-- IMPORT Derived.StillTailTactics
/-- A circuit with an adder put behind. -/
def impl_AddGates.f (k : Nat) (a0_0 : Int) (l0_1 : List S59) (l0_2 : List Int) (l1 l2 : List Int) (a3 : Int) : Option (Int × List S59 × List Int × List Int × Bool) :=
 (impl_areLists.f k a0_0 l0_1 l0_2 l1 l2).bind fun t1 => if t1 = true then (impl_Circuit_wires.f a0_0 l0_1 l0_2).bind fun n => (impl_areWiresBelow.f [a3] n).bind fun t3 => if t3 = true then (impl_copyCircuit.f a0_0 l0_1 l0_2).bind fun c => if 0 ≤ c.1 ∧ c.1 ≤ 1000000 ∧ c.2.1.length ≤ 900000 ∧ l1.length ≤ 10000 ∧ l2.length = l1.length then (impl_GoodCircuit.f k c.1 (addN c.1 l1 l2 a3 c.2.1 l1.length).1 c.2.2).bind fun t4 => if t4 = true then some (c.1, (addN c.1 l1 l2 a3 c.2.1 l1.length).1, c.2.2, (addN c.1 l1 l2 a3 c.2.1 l1.length).2.1, true) else some (0, [], [], [], false) else none else some (0, [], [], [], false) else some (0, [], [], [], false)
theorem impl_AddGates.mono : ∀ a0 a1 a2 a3 a4 a5 k, LeO (impl_AddGates.f k a0 a1 a2 a3 a4 a5) (impl_AddGates.f (k + 1) a0 a1 a2 a3 a4 a5) := by
 intro a0 a1 a2 a3 a4 a5 k
 unfold impl_AddGates.f
 refine LeO.bind (impl_areLists.mono _ _ _ _ _ _) (fun _ => LeO.ite (LeO.bind (LeO.refl _) (fun _ => LeO.bind (LeO.refl _) (fun _ => LeO.ite (LeO.bind (LeO.refl _) (fun _ => LeO.ite (LeO.bind (impl_GoodCircuit.mono _ _ _ _) (fun _ => LeO.refl _)) (LeO.refl _))) (LeO.refl _)))) (LeO.refl _))
set_option maxHeartbeats 32000000 in
set_option maxRecDepth 100000 in
theorem impl_AddGates.calls (k : Nat) (a0_0 : Int) (A0_1 : Option Addr) (c0_1 : Nat) (l0_1 : List S59) (A0_2 : Option Addr) (c0_2 : Nat) (l0_2 : List Int) (A1 : Option Addr) (c1 : Nat) (l1 : List Int) (A2 : Option Addr) (c2 : Nat) (l2 : List Int) (a3 : Int) (r1 : Int) (r2 : List S59) (r3 r4 : List Int) (r5 : Bool) (w : World) (hr0_1 : Kd.C k59 w A0_1 l0_1.length l0_1) (hc0_1 : l0_1.length ≤ c0_1) (hr0_2 : Kd.C (Kd.int .i64) w A0_2 l0_2.length l0_2) (hc0_2 : l0_2.length ≤ c0_2) (hr1 : Kd.C (Kd.int .i64) w A1 l1.length l1) (hc1 : l1.length ≤ c1) (hr2 : Kd.C (Kd.int .i64) w A2 l2.length l2) (hc2 : l2.length ≤ c2) (h : impl_AddGates.f k a0_0 l0_1 l0_2 l1 l2 a3 = some (r1, r2, r3, r4, r5)) :
  Calls Try.prog 35 #[.agg #[.int .i64 a0_0, .slice A0_1 l0_1.length c0_1, .slice A0_2 l0_2.length c0_2], .slice A1 l1.length c1, .slice A2 l2.length c2, .int .i64 a3] w fun e w' => ∃ v1_ v2_ v3_ : Value, e = .returned (.tuple #[.agg #[.int .i64 r1, v1_, v2_], v3_, .bool r5]) ∧ Kd.R k59 59 w' w.heap.size (fun _ => True) v1_ r2 ∧ Kd.R (Kd.int .i64) 3 w' w.heap.size (fun k_ => some k_ ≠ (v3_ : Value).ownBlock) v2_ r3 ∧ Kd.R (Kd.int .i64) 3 w' w.heap.size (fun k_ => some k_ ≠ (v2_ : Value).ownBlock) v3_ r4 ∧ Below w.heap.size w w' := by
 have hu1 := Try.underlying30
 have hu2 := Try.underlying23
 have HR0_1 := Aside0.mk hr0_1
 have HC0_1 := Aside0.mk hc0_1
 have HR0_2 := Aside0.mk hr0_2
 have HC0_2 := Aside0.mk hc0_2
 have HR1 := Aside0.mk hr1
 have HC1 := Aside0.mk hc1
 have HR2 := Aside0.mk hr2
 have HC2 := Aside0.mk hc2
 clear hr0_1 hc0_1 hr0_2 hc0_2 hr1 hc1 hr2 hc2
 have HB := Aside0.mk (Below.refl w.heap.size w)
 unfold impl_AddGates.f at h
 obtain ⟨t1, h1, h⟩ := Option.bind_eq_some_iff.mp h
 have A1_ := Aside0.mk h1
 clear h1
 cases t1 with
 | false =>
  simp only [Bool.false_eq_true, if_false, Option.some.injEq, Prod.mk.injEq] at h
  obtain ⟨rfl, rfl, rfl, rfl, rfl⟩ := h
  go_enter Try.func35, Try.ntmps35
  go_wp2_with (first | ((with_reducible refine gate_dst (N := 4) rfl ?_); refine box_event ?hg (N := 4) ?hd (cs := #[.int .i64 a0_0, .slice A0_1 l0_1.length c0_1, .slice A0_2 l0_2.length c0_2]) (t := 30) ?hr ?_; (case hd => rfl); (case hg => rfl); (case hr => first | (go_simp; done) | (go_simp; rfl)); intro gc hg_ w1 hbox hb; have n_ := Aside0.mk (below_step (qB) hb); clear HB; have HB := n_; clear n_; have BC := Aside0.mk hbox; clear hbox hb hg_) | ((with_reducible refine gate_dst (N := 8) rfl ?_); refine box_event ?hg (N := 8) ?hd (cs := #[.int .i64 0, .slice none 0 0, .slice none 0 0]) (t := 30) ?hr ?_; (case hd => rfl); (case hg => rfl); (case hr => first | (go_simp; done) | (go_simp; rfl)); intro gr hg_ w2 hbox hb; have hcr : gc ≠ gr := (by rw [hg_]; exact Nat.ne_of_lt (blk_lt BC.out)); have GR := Aside0.mk ((by rw [hg_]; exact below_size (qB)) : w.heap.size ≤ gr); have n_ := Aside0.mk (blk_below (g := gc) (o := .cells #[.int .i64 a0_0, .slice A0_1 l0_1.length c0_1, .slice A0_2 l0_2.length c0_2] 30 (0, 0)) (qK BC.out) hb); clear BC; have BC := n_; clear n_; have BR := Aside0.mk hbox; have n_ := Aside0.mk (below_step (qB) hb); clear HB; have HB := n_; clear n_; have hz0 : w2.cell? ⟨gc, 0, none⟩ = some (.int .i64 a0_0) := (blk_cell BC.out 0).trans rfl; have hz1 : w2.cell? ⟨gc, 1, none⟩ = some (.slice A0_1 l0_1.length c0_1) := (blk_cell BC.out 1).trans rfl; have hz2 : w2.cell? ⟨gc, 2, none⟩ = some (.slice A0_2 l0_2.length c0_2) := (blk_cell BC.out 2).trans rfl; clear hbox hb hg_) | (go_at_call 61; (with_reducible refine (impl_areLists.calls k a0_0 _ _ l0_1 _ _ l0_2 _ _ l1 _ _ l2 false _ ?side1 ?side2 ?side3 ?side4 ?side5 ?side6 ?side7 ?side8 A1_.out).mono ?_); (case side1 => exact qC (Kd.C_below HR0_1.out HB.out)); (case side2 => exact HC0_1.out); (case side3 => exact qC (Kd.C_below HR0_2.out HB.out)); (case side4 => exact HC0_2.out); (case side5 => exact qC (Kd.C_below HR1.out HB.out)); (case side6 => exact HC1.out); (case side7 => exact qC (Kd.C_below HR2.out HB.out)); (case side8 => exact HC2.out); rintro e w5 ⟨rfl, hb⟩; have n1_ := Aside0.mk (blk_below (g := gc) (o := .cells #[.int .i64 a0_0, .slice A0_1 l0_1.length c0_1, .slice A0_2 l0_2.length c0_2] 30 (0, 0)) (qK BC.out) hb); have n2_ := Aside0.mk (blk_below (g := gr) (o := .cells #[.int .i64 0, .slice none 0 0, .slice none 0 0] 30 (0, 0)) (qK BR.out) hb); have n3_ := Aside0.mk (below_step (qB) hb); clear BC BR HB; have BC := n1_; have BR := n2_; have HB := n3_; clear n1_ n2_ n3_ hb; have hz0 : w5.cell? ⟨gc, 0, none⟩ = some (.int .i64 a0_0) := (blk_cell BC.out 0).trans rfl; have hz1 : w5.cell? ⟨gc, 1, none⟩ = some (.slice A0_1 l0_1.length c0_1) := (blk_cell BC.out 1).trans rfl; have hz2 : w5.cell? ⟨gc, 2, none⟩ = some (.slice A0_2 l0_2.length c0_2) := (blk_cell BC.out 2).trans rfl; have hy0 : w5.cell? ⟨gr, 0, none⟩ = some (.int .i64 0) := (blk_cell BR.out 0).trans rfl; have hy1 : w5.cell? ⟨gr, 1, none⟩ = some (.slice none 0 0) := (blk_cell BR.out 1).trans rfl; have hy2 : w5.cell? ⟨gr, 2, none⟩ = some (.slice none 0 0) := (blk_cell BR.out 2).trans rfl; have hyf0 := blk_frozen BR.out 0; have hyf1 := blk_frozen BR.out 1; have hyf2 := blk_frozen BR.out 2))
  refine bodyPost_ret (v := .tuple #[.agg #[.int .i64 0, .slice none 0 0, .slice none 0 0], .slice none 0 0, .bool false]) (by simp [results, Try.results35, go_sem, hy0, hy1, hy2]) rfl ⟨.slice none 0 0, .slice none 0 0, .slice none 0 0, rfl, Kd.R_nil _ _ _ _ _, Kd.R_nil _ _ _ _ _, Kd.R_nil _ _ _ _ _, qB⟩
 | true =>
  simp only [if_true] at h
  obtain ⟨n, h2, h⟩ := Option.bind_eq_some_iff.mp h
  obtain ⟨t3, h3, h⟩ := Option.bind_eq_some_iff.mp h
  have A2_ := Aside0.mk h2
  have A3_ := Aside0.mk h3
  clear h2 h3
  cases t3 with
  | false =>
   simp only [Bool.false_eq_true, if_false, Option.some.injEq, Prod.mk.injEq] at h
   obtain ⟨rfl, rfl, rfl, rfl, rfl⟩ := h
   go_enter Try.func35, Try.ntmps35
   go_wp2_with (first | ((with_reducible refine gate_dst (N := 4) rfl ?_); refine box_event ?hg (N := 4) ?hd (cs := #[.int .i64 a0_0, .slice A0_1 l0_1.length c0_1, .slice A0_2 l0_2.length c0_2]) (t := 30) ?hr ?_; (case hd => rfl); (case hg => rfl); (case hr => first | (go_simp; done) | (go_simp; rfl)); intro gc hg_ w1 hbox hb; have n_ := Aside0.mk (below_step (qB) hb); clear HB; have HB := n_; clear n_; have BC := Aside0.mk hbox; clear hbox hb hg_) | ((with_reducible refine gate_dst (N := 8) rfl ?_); refine box_event ?hg (N := 8) ?hd (cs := #[.int .i64 0, .slice none 0 0, .slice none 0 0]) (t := 30) ?hr ?_; (case hd => rfl); (case hg => rfl); (case hr => first | (go_simp; done) | (go_simp; rfl)); intro gr hg_ w2 hbox hb; have hcr : gc ≠ gr := (by rw [hg_]; exact Nat.ne_of_lt (blk_lt BC.out)); have GR := Aside0.mk ((by rw [hg_]; exact below_size (qB)) : w.heap.size ≤ gr); have n_ := Aside0.mk (blk_below (g := gc) (o := .cells #[.int .i64 a0_0, .slice A0_1 l0_1.length c0_1, .slice A0_2 l0_2.length c0_2] 30 (0, 0)) (qK BC.out) hb); clear BC; have BC := n_; clear n_; have BR := Aside0.mk hbox; have n_ := Aside0.mk (below_step (qB) hb); clear HB; have HB := n_; clear n_; have hz0 : w2.cell? ⟨gc, 0, none⟩ = some (.int .i64 a0_0) := (blk_cell BC.out 0).trans rfl; have hz1 : w2.cell? ⟨gc, 1, none⟩ = some (.slice A0_1 l0_1.length c0_1) := (blk_cell BC.out 1).trans rfl; have hz2 : w2.cell? ⟨gc, 2, none⟩ = some (.slice A0_2 l0_2.length c0_2) := (blk_cell BC.out 2).trans rfl; clear hbox hb hg_) | (go_at_call 61; (with_reducible refine (impl_areLists.calls k a0_0 _ _ l0_1 _ _ l0_2 _ _ l1 _ _ l2 true _ ?side1 ?side2 ?side3 ?side4 ?side5 ?side6 ?side7 ?side8 A1_.out).mono ?_); (case side1 => exact qC (Kd.C_below HR0_1.out HB.out)); (case side2 => exact HC0_1.out); (case side3 => exact qC (Kd.C_below HR0_2.out HB.out)); (case side4 => exact HC0_2.out); (case side5 => exact qC (Kd.C_below HR1.out HB.out)); (case side6 => exact HC1.out); (case side7 => exact qC (Kd.C_below HR2.out HB.out)); (case side8 => exact HC2.out); rintro e w5 ⟨rfl, hb⟩; have n1_ := Aside0.mk (blk_below (g := gc) (o := .cells #[.int .i64 a0_0, .slice A0_1 l0_1.length c0_1, .slice A0_2 l0_2.length c0_2] 30 (0, 0)) (qK BC.out) hb); have n2_ := Aside0.mk (blk_below (g := gr) (o := .cells #[.int .i64 0, .slice none 0 0, .slice none 0 0] 30 (0, 0)) (qK BR.out) hb); have n3_ := Aside0.mk (below_step (qB) hb); clear BC BR HB; have BC := n1_; have BR := n2_; have HB := n3_; clear n1_ n2_ n3_ hb; have hz0 : w5.cell? ⟨gc, 0, none⟩ = some (.int .i64 a0_0) := (blk_cell BC.out 0).trans rfl; have hz1 : w5.cell? ⟨gc, 1, none⟩ = some (.slice A0_1 l0_1.length c0_1) := (blk_cell BC.out 1).trans rfl; have hz2 : w5.cell? ⟨gc, 2, none⟩ = some (.slice A0_2 l0_2.length c0_2) := (blk_cell BC.out 2).trans rfl; have hza0 := bd_cell_new hz0 (.cells #[.int .i64 a3] 3); have hza1 := bd_cell_new hz1 (.cells #[.int .i64 a3] 3); have hza2 := bd_cell_new hz2 (.cells #[.int .i64 a3] 3)) | (go_at_call 49; (with_reducible refine (impl_Circuit_wires.calls a0_0 _ _ l0_1 _ _ l0_2 n _ ?side1 ?side2 ?side3 ?side4 A2_.out).mono ?_); (case side1 => exact qC (Kd.C_below HR0_1.out HB.out)); (case side2 => exact HC0_1.out); (case side3 => exact qC (Kd.C_below HR0_2.out HB.out)); (case side4 => exact HC0_2.out); rintro e w6 ⟨rfl, hb⟩; have RL := Aside0.mk (Kd.R_below (R_one w5 3 (fun _ => True) a3 trivial) hb); have n1_ := Aside0.mk (blk_below (g := gc) (o := .cells #[.int .i64 a0_0, .slice A0_1 l0_1.length c0_1, .slice A0_2 l0_2.length c0_2] 30 (0, 0)) (qK BC.out) hb); have n2_ := Aside0.mk (blk_below (g := gr) (o := .cells #[.int .i64 0, .slice none 0 0, .slice none 0 0] 30 (0, 0)) (qK BR.out) hb); have n3_ := Aside0.mk (below_step (qB) hb); clear BC BR HB; have BC := n1_; have BR := n2_; have HB := n3_; clear n1_ n2_ n3_ hb; have hz0 : w6.cell? ⟨gc, 0, none⟩ = some (.int .i64 a0_0) := (blk_cell BC.out 0).trans rfl; have hz1 : w6.cell? ⟨gc, 1, none⟩ = some (.slice A0_1 l0_1.length c0_1) := (blk_cell BC.out 1).trans rfl; have hz2 : w6.cell? ⟨gc, 2, none⟩ = some (.slice A0_2 l0_2.length c0_2) := (blk_cell BC.out 2).trans rfl) | (go_at_call 48; refine calls_of_args (args' := #[.slice (some ⟨w5.heap.size, 0, none⟩) [a3].length 1, .int .i64 n]) rfl ?_; refine (impl_areWiresBelow.calls _ 1 [a3] n false _ (Kd.R_reads' RL.out).2.2 (by simp) A3_.out).mono ?_; rintro e w7 ⟨rfl, hb⟩; have n1_ := Aside0.mk (blk_below (g := gc) (o := .cells #[.int .i64 a0_0, .slice A0_1 l0_1.length c0_1, .slice A0_2 l0_2.length c0_2] 30 (0, 0)) (qK BC.out) hb); have n2_ := Aside0.mk (blk_below (g := gr) (o := .cells #[.int .i64 0, .slice none 0 0, .slice none 0 0] 30 (0, 0)) (qK BR.out) hb); have n3_ := Aside0.mk (below_step (qB) hb); clear BC BR HB; have BC := n1_; have BR := n2_; have HB := n3_; clear n1_ n2_ n3_ hb; have hz0 : w7.cell? ⟨gc, 0, none⟩ = some (.int .i64 a0_0) := (blk_cell BC.out 0).trans rfl; have hz1 : w7.cell? ⟨gc, 1, none⟩ = some (.slice A0_1 l0_1.length c0_1) := (blk_cell BC.out 1).trans rfl; have hz2 : w7.cell? ⟨gc, 2, none⟩ = some (.slice A0_2 l0_2.length c0_2) := (blk_cell BC.out 2).trans rfl; have hy0 : w7.cell? ⟨gr, 0, none⟩ = some (.int .i64 0) := (blk_cell BR.out 0).trans rfl; have hy1 : w7.cell? ⟨gr, 1, none⟩ = some (.slice none 0 0) := (blk_cell BR.out 1).trans rfl; have hy2 : w7.cell? ⟨gr, 2, none⟩ = some (.slice none 0 0) := (blk_cell BR.out 2).trans rfl; have hyf0 := blk_frozen BR.out 0; have hyf1 := blk_frozen BR.out 1; have hyf2 := blk_frozen BR.out 2))
   refine bodyPost_ret (v := .tuple #[.agg #[.int .i64 0, .slice none 0 0, .slice none 0 0], .slice none 0 0, .bool false]) (by simp [results, Try.results35, go_sem, hy0, hy1, hy2]) rfl ⟨.slice none 0 0, .slice none 0 0, .slice none 0 0, rfl, Kd.R_nil _ _ _ _ _, Kd.R_nil _ _ _ _ _, Kd.R_nil _ _ _ _ _, qB⟩
  | true =>
   simp only [if_true] at h
   obtain ⟨⟨q1, q2, q3⟩, h4, h⟩ := Option.bind_eq_some_iff.mp h
   have A4_ := Aside0.mk h4
   clear h4
   dsimp only at h
   split at h
   ·rename_i hc
    obtain ⟨hi0, hi1, hgl, hal, hbl⟩ := hc
    have HBL := Aside0.mk hbl
    obtain ⟨ga, hga⟩ : ∃ q, (addN q1 l1 l2 a3 q2 l1.length).1 = q := ⟨_, rfl⟩
    obtain ⟨va, hva⟩ : ∃ q, (addN q1 l1 l2 a3 q2 l1.length).2.1 = q := ⟨_, rfl⟩
    rw [hga, hva] at h
    have HGA := Aside0.mk hga
    have HVA := Aside0.mk hva
    obtain ⟨t4, h5, h⟩ := Option.bind_eq_some_iff.mp h
    have A5_ := Aside0.mk h5
    clear h5 hga hva hbl
    go_enter Try.func35, Try.ntmps35
    go_upto_region 4 with (first | ((with_reducible refine gate_dst (N := 4) rfl ?_); refine box_event ?hg (N := 4) ?hd (cs := #[.int .i64 a0_0, .slice A0_1 l0_1.length c0_1, .slice A0_2 l0_2.length c0_2]) (t := 30) ?hr ?_; (case hd => rfl); (case hg => rfl); (case hr => first | (go_simp; done) | (go_simp; rfl)); intro gc hg_ w1 hbox hb; have n_ := Aside0.mk (below_step (qB) hb); clear HB; have HB := n_; clear n_; have BC := Aside0.mk hbox; clear hbox hb hg_) | ((with_reducible refine gate_dst (N := 8) rfl ?_); refine box_event ?hg (N := 8) ?hd (cs := #[.int .i64 0, .slice none 0 0, .slice none 0 0]) (t := 30) ?hr ?_; (case hd => rfl); (case hg => rfl); (case hr => first | (go_simp; done) | (go_simp; rfl)); intro gr hg_ w2 hbox hb; have hcr : gc ≠ gr := (by rw [hg_]; exact Nat.ne_of_lt (blk_lt BC.out)); have GR := Aside0.mk ((by rw [hg_]; exact below_size (qB)) : w.heap.size ≤ gr); have n_ := Aside0.mk (blk_below (g := gc) (o := .cells #[.int .i64 a0_0, .slice A0_1 l0_1.length c0_1, .slice A0_2 l0_2.length c0_2] 30 (0, 0)) (qK BC.out) hb); clear BC; have BC := n_; clear n_; have BR := Aside0.mk hbox; have n_ := Aside0.mk (below_step (qB) hb); clear HB; have HB := n_; clear n_; have hz0 : w2.cell? ⟨gc, 0, none⟩ = some (.int .i64 a0_0) := (blk_cell BC.out 0).trans rfl; have hz1 : w2.cell? ⟨gc, 1, none⟩ = some (.slice A0_1 l0_1.length c0_1) := (blk_cell BC.out 1).trans rfl; have hz2 : w2.cell? ⟨gc, 2, none⟩ = some (.slice A0_2 l0_2.length c0_2) := (blk_cell BC.out 2).trans rfl; clear hbox hb hg_) | (go_at_call 61; (with_reducible refine (impl_areLists.calls k a0_0 _ _ l0_1 _ _ l0_2 _ _ l1 _ _ l2 true _ ?side1 ?side2 ?side3 ?side4 ?side5 ?side6 ?side7 ?side8 A1_.out).mono ?_); (case side1 => exact qC (Kd.C_below HR0_1.out HB.out)); (case side2 => exact HC0_1.out); (case side3 => exact qC (Kd.C_below HR0_2.out HB.out)); (case side4 => exact HC0_2.out); (case side5 => exact qC (Kd.C_below HR1.out HB.out)); (case side6 => exact HC1.out); (case side7 => exact qC (Kd.C_below HR2.out HB.out)); (case side8 => exact HC2.out); rintro e w5 ⟨rfl, hb⟩; have n1_ := Aside0.mk (blk_below (g := gc) (o := .cells #[.int .i64 a0_0, .slice A0_1 l0_1.length c0_1, .slice A0_2 l0_2.length c0_2] 30 (0, 0)) (qK BC.out) hb); have n2_ := Aside0.mk (blk_below (g := gr) (o := .cells #[.int .i64 0, .slice none 0 0, .slice none 0 0] 30 (0, 0)) (qK BR.out) hb); have n3_ := Aside0.mk (below_step (qB) hb); clear BC BR HB; have BC := n1_; have BR := n2_; have HB := n3_; clear n1_ n2_ n3_ hb; have hz0 : w5.cell? ⟨gc, 0, none⟩ = some (.int .i64 a0_0) := (blk_cell BC.out 0).trans rfl; have hz1 : w5.cell? ⟨gc, 1, none⟩ = some (.slice A0_1 l0_1.length c0_1) := (blk_cell BC.out 1).trans rfl; have hz2 : w5.cell? ⟨gc, 2, none⟩ = some (.slice A0_2 l0_2.length c0_2) := (blk_cell BC.out 2).trans rfl; have hza0 := bd_cell_new hz0 (.cells #[.int .i64 a3] 3); have hza1 := bd_cell_new hz1 (.cells #[.int .i64 a3] 3); have hza2 := bd_cell_new hz2 (.cells #[.int .i64 a3] 3)) | (go_at_call 49; (with_reducible refine (impl_Circuit_wires.calls a0_0 _ _ l0_1 _ _ l0_2 n _ ?side1 ?side2 ?side3 ?side4 A2_.out).mono ?_); (case side1 => exact qC (Kd.C_below HR0_1.out HB.out)); (case side2 => exact HC0_1.out); (case side3 => exact qC (Kd.C_below HR0_2.out HB.out)); (case side4 => exact HC0_2.out); rintro e w6 ⟨rfl, hb⟩; have RL := Aside0.mk (Kd.R_below (R_one w5 3 (fun _ => True) a3 trivial) hb); have n1_ := Aside0.mk (blk_below (g := gc) (o := .cells #[.int .i64 a0_0, .slice A0_1 l0_1.length c0_1, .slice A0_2 l0_2.length c0_2] 30 (0, 0)) (qK BC.out) hb); have n2_ := Aside0.mk (blk_below (g := gr) (o := .cells #[.int .i64 0, .slice none 0 0, .slice none 0 0] 30 (0, 0)) (qK BR.out) hb); have n3_ := Aside0.mk (below_step (qB) hb); clear BC BR HB; have BC := n1_; have BR := n2_; have HB := n3_; clear n1_ n2_ n3_ hb; have hz0 : w6.cell? ⟨gc, 0, none⟩ = some (.int .i64 a0_0) := (blk_cell BC.out 0).trans rfl; have hz1 : w6.cell? ⟨gc, 1, none⟩ = some (.slice A0_1 l0_1.length c0_1) := (blk_cell BC.out 1).trans rfl; have hz2 : w6.cell? ⟨gc, 2, none⟩ = some (.slice A0_2 l0_2.length c0_2) := (blk_cell BC.out 2).trans rfl) | (go_at_call 48; refine calls_of_args (args' := #[.slice (some ⟨w5.heap.size, 0, none⟩) [a3].length 1, .int .i64 n]) rfl ?_; refine (impl_areWiresBelow.calls _ 1 [a3] n true _ (Kd.R_reads' RL.out).2.2 (by simp) A3_.out).mono ?_; rintro e w7 ⟨rfl, hb⟩; have n1_ := Aside0.mk (blk_below (g := gc) (o := .cells #[.int .i64 a0_0, .slice A0_1 l0_1.length c0_1, .slice A0_2 l0_2.length c0_2] 30 (0, 0)) (qK BC.out) hb); have n2_ := Aside0.mk (blk_below (g := gr) (o := .cells #[.int .i64 0, .slice none 0 0, .slice none 0 0] 30 (0, 0)) (qK BR.out) hb); have n3_ := Aside0.mk (below_step (qB) hb); clear BC BR HB; have BC := n1_; have BR := n2_; have HB := n3_; clear n1_ n2_ n3_ hb; have hz0 : w7.cell? ⟨gc, 0, none⟩ = some (.int .i64 a0_0) := (blk_cell BC.out 0).trans rfl; have hz1 : w7.cell? ⟨gc, 1, none⟩ = some (.slice A0_1 l0_1.length c0_1) := (blk_cell BC.out 1).trans rfl; have hz2 : w7.cell? ⟨gc, 2, none⟩ = some (.slice A0_2 l0_2.length c0_2) := (blk_cell BC.out 2).trans rfl) | (go_at_call 62; (with_reducible refine (impl_copyCircuit.calls a0_0 _ _ l0_1 _ _ l0_2 q1 q2 q3 _ ?side1 ?side2 ?side3 ?side4 A4_.out).mono ?_); (case side1 => exact qC (Kd.C_below HR0_1.out HB.out)); (case side2 => exact HC0_1.out); (case side3 => exact qC (Kd.C_below HR0_2.out HB.out)); (case side4 => exact HC0_2.out); rintro e w8 ⟨v1_, v2_, rfl, hv1, hv2, hb⟩; obtain ⟨Ag, cg, rfl⟩ := Kd.R_slice hv1; obtain ⟨Ao, co, rfl⟩ := Kd.R_slice hv2; have V1 := Aside0.mk (Kd.R_lower hv1 (below_size (qB))); have V2 := Aside0.mk (R_till (Kd.R_lower hv2 (below_size (qB)))); clear hv1 hv2; have n1_ := Aside0.mk (blk_below (g := gc) (o := .cells #[.int .i64 a0_0, .slice A0_1 l0_1.length c0_1, .slice A0_2 l0_2.length c0_2] 30 (0, 0)) (qK BC.out) hb); have n2_ := Aside0.mk (blk_below (g := gr) (o := .cells #[.int .i64 0, .slice none 0 0, .slice none 0 0] 30 (0, 0)) (qK BR.out) hb); have n3_ := Aside0.mk (below_step (qB) hb); clear BC BR HB; have BC := n1_; have BR := n2_; have HB := n3_; clear n1_ n2_ n3_ hb; have hz0 : w8.cell? ⟨gc, 0, none⟩ = some (.int .i64 a0_0) := (blk_cell BC.out 0).trans rfl; have hz1 : w8.cell? ⟨gc, 1, none⟩ = some (.slice A0_1 l0_1.length c0_1) := (blk_cell BC.out 1).trans rfl; have hz2 : w8.cell? ⟨gc, 2, none⟩ = some (.slice A0_2 l0_2.length c0_2) := (blk_cell BC.out 2).trans rfl) | ((with_reducible refine gate_dst (N := 11) rfl ?_); refine box_event ?hg (N := 11) ?hd (cs := #[.int .i64 0, .slice none 0 0, .slice none 0 0]) (t := 30) ?hr ?_; (case hd => rfl); (case hg => rfl); (case hr => first | (go_simp; done) | (go_simp; rfl)); intro G hg_ w9 hbox hb; have hgG : gr ≠ G := (by rw [hg_]; exact Nat.ne_of_lt (blk_lt BR.out)); have hVG := Aside0.mk ((by rw [hg_]; exact Nat.le_refl _) : w8.heap.size ≤ G); have GG := Aside0.mk ((by rw [hg_]; exact below_size (qB)) : w.heap.size ≤ G); have n1_ := Aside0.mk (blk_below (g := gr) (o := .cells #[.int .i64 0, .slice none 0 0, .slice none 0 0] 30 (0, 0)) (qK BR.out) hb); have n2_ := Aside0.mk (below_step (qB) hb); have n3_ := Aside0.mk (Kd.R_below V1.out hb); have n4_ := Aside0.mk (Kd.R_below V2.out hb); clear BC BR HB V1 V2; have BR := n1_; have HB := n2_; have V1 := n3_; have V2 := n4_; have BG := Aside0.mk hbox; clear n1_ n2_ n3_ n4_; have hk0 : w9.cell? ⟨G, 0, none⟩ = some (.int .i64 0) := (blk_cell BG.out 0).trans rfl; have hk1 : w9.cell? ⟨G, 1, none⟩ = some (.slice none 0 0) := (blk_cell BG.out 1).trans rfl; have hk2 : w9.cell? ⟨G, 2, none⟩ = some (.slice none 0 0) := (blk_cell BG.out 2).trans rfl; have hkf0 := blk_frozen BG.out 0; have hkf1 := blk_frozen BG.out 1; have hkf2 := blk_frozen BG.out 2; clear hbox hb hg_))
    have BG5 := Aside0.mk (blk_put (blk_put (blk_put BG.out 0 (.int .i64 q1) rfl) 1 (.slice Ag q2.length cg) rfl) 2 (.slice Ao q3.length co) rfl)
    have BR5 := Aside0.mk (blk_far (blk_far (blk_far BR.out (p := ⟨G, 0, none⟩) hgG (.int .i64 q1)) (p := ⟨G, 1, none⟩) hgG (.slice Ag q2.length cg)) (p := ⟨G, 2, none⟩) hgG (.slice Ao q3.length co))
    have V15 := Aside0.mk (Kd.R_set (Kd.R_set (Kd.R_set V1.out BG.out (by decide) 0 (.int .i64 q1)) (blk_put BG.out 0 (.int .i64 q1) rfl) (by decide) 1 (.slice Ag q2.length cg)) (blk_put (blk_put BG.out 0 (.int .i64 q1) rfl) 1 (.slice Ag q2.length cg) rfl) (by decide) 2 (.slice Ao q3.length co))
    have V25 := Aside0.mk (Kd.R_set (Kd.R_set (Kd.R_set V2.out BG.out (by decide) 0 (.int .i64 q1)) (blk_put BG.out 0 (.int .i64 q1) rfl) (by decide) 1 (.slice Ag q2.length cg)) (blk_put (blk_put BG.out 0 (.int .i64 q1) rfl) 1 (.slice Ag q2.length cg) rfl) (by decide) 2 (.slice Ao q3.length co))
    have L5 := Aside0.mk (((HB.out.setCell (p := ⟨G, 0, none⟩) GG.out (.int .i64 q1)).setCell (p := ⟨G, 1, none⟩) GG.out (.slice Ag q2.length cg)).setCell (p := ⟨G, 2, none⟩) GG.out (.slice Ao q3.length co))
    clear BG BR V1 V2 HB hk0 hk1 hk2 hkf0 hkf1 hkf2
    obtain ⟨w12, hw12⟩ : ∃ q, q = (((w9.setCell ⟨G, 0, none⟩ (.int .i64 q1)).setCell ⟨G, 1, none⟩ (.slice Ag q2.length cg)).setCell ⟨G, 2, none⟩ (.slice Ao q3.length co)) := ⟨_, rfl⟩
    rw [← hw12] at BG5 BR5 V15 V25 L5 ⊢
    clear hw12
    have BR := BR5
    have V2 := V25
    have HB := L5
    have h812 : Aside0 (w8.heap.size ≤ w12.heap.size) := ⟨Nat.le_trans hVG.out (Nat.le_of_lt (blk_lt BG5.out))⟩
    have B5 : Aside0 (Bd 30 G w.heap.size q1 (.slice Ao q3.length co) w12 q2) := ⟨⟨_, BG5.out, V15.out⟩⟩
    clear BR5 V25 L5 V15 BG5
    cases t4 with
    | false =>
     simp only [Bool.false_eq_true, if_false, Option.some.injEq, Prod.mk.injEq] at h
     obtain ⟨rfl, rfl, rfl, rfl, rfl⟩ := h
     go_wp2_with (first | (go_at_call 63; refine (impl_Circuit_putAdd.calls G w.heap.size q1 (.slice Ao q3.length co) q2 A1 A2 c1 c2 l1 l2 a3 w12 HB.out.size B5.out (Fr.C_came (Kd.heap_int .i64) HR1.out HB.out GG.out (Nat.le_refl _)) (Fr.C_came (Kd.heap_int .i64) HR2.out HB.out GG.out (Nat.le_refl _)) hi0 hi1 hgl hal HBL.out).mono ?_; rintro e w13 ⟨v3_, rfl, hbd, hv, hf⟩; rw [HGA.out] at hbd; rw [HVA.out] at hv; obtain ⟨gv, hG9, hR9⟩ := hbd; obtain ⟨Ag2, cg2, rfl⟩ := Kd.R_slice hR9; obtain ⟨Aw, cw, rfl⟩ := Kd.R_slice hv; have G6 := Aside0.mk hG9; have V6 := Aside0.mk hR9; have hO := hf.R V2.out (by decide) (fun k hk => Nat.ne_of_lt (Nat.lt_of_lt_of_le hk.2 hVG.out)); have O6 := Aside0.mk (Kd.R_mono (ok' := fun k_ => some k_ ≠ (Value.slice Aw va.length cw).ownBlock) hO (fun k hk he => by have := own_ge hv k he.symm; have := h812.out; have := hk.2; omega)); have W6 := Aside0.mk (Kd.R_lower (Kd.R_mono (ok' := fun k_ => some k_ ≠ (Value.slice Ao q3.length co).ownBlock) (Kd.R_bound hv) (fun k hk he => by have := (hO.1 k he.symm).2; have := h812.out; have := hk.2.1; omega)) HB.out.size); have R6 := Aside0.mk (hf.blk BR.out hgG (by decide)); have n_ := Aside0.mk (HB.out.trans (hf.below GG.out (Nat.le_refl _) HB.out.size)); clear HB; have HB := n_; clear n_ hG9 hR9 hv hf hO; have hj0 : w13.cell? ⟨G, 0, none⟩ = some (.int .i64 q1) := (blk_cell G6.out 0).trans rfl; have hj1 : w13.cell? ⟨G, 1, none⟩ = some (.slice Ag2 ga.length cg2) := (blk_cell G6.out 1).trans rfl; have hj2 : w13.cell? ⟨G, 2, none⟩ = some (.slice Ao q3.length co) := (blk_cell G6.out 2).trans rfl) | (go_at_call 14; refine (impl_GoodCircuit.calls k q1 _ cg2 ga _ co q3 false _ (Kd.R_reads' V6.out).2.2 (Kd.R_reads' V6.out).2.1 (Kd.R_reads' O6.out).2.2 (Kd.R_reads' O6.out).2.1 A5_.out).mono ?_; rintro e w14 ⟨rfl, hb⟩; have R8 := Aside0.mk (blk_below R6.out hb); have G8 := Aside0.mk (blk_below G6.out hb); have V8 := Aside0.mk (Kd.R_below V6.out hb); have O8 := Aside0.mk (Kd.R_below O6.out hb); have W8 := Aside0.mk (Kd.R_below W6.out hb); have n_ := Aside0.mk (below_step HB.out hb); clear HB; have HB := n_; clear n_ hb; have hj0 : w14.cell? ⟨G, 0, none⟩ = some (.int .i64 q1) := (blk_cell G8.out 0).trans rfl; have hj1 : w14.cell? ⟨G, 1, none⟩ = some (.slice Ag2 ga.length cg2) := (blk_cell G8.out 1).trans rfl; have hj2 : w14.cell? ⟨G, 2, none⟩ = some (.slice Ao q3.length co) := (blk_cell G8.out 2).trans rfl; have hy0 : w14.cell? ⟨gr, 0, none⟩ = some (.int .i64 0) := (blk_cell R8.out 0).trans rfl; have hy1 : w14.cell? ⟨gr, 1, none⟩ = some (.slice none 0 0) := (blk_cell R8.out 1).trans rfl; have hy2 : w14.cell? ⟨gr, 2, none⟩ = some (.slice none 0 0) := (blk_cell R8.out 2).trans rfl; have hyf0 := blk_frozen R8.out 0; have hyf1 := blk_frozen R8.out 1; have hyf2 := blk_frozen R8.out 2))
     refine bodyPost_ret (v := .tuple #[.agg #[.int .i64 0, .slice none 0 0, .slice none 0 0], .slice none 0 0, .bool false]) (by simp [results, Try.results35, go_sem, hy0, hy1, hy2]) rfl ⟨.slice none 0 0, .slice none 0 0, .slice none 0 0, rfl, Kd.R_nil _ _ _ _ _, Kd.R_nil _ _ _ _ _, Kd.R_nil _ _ _ _ _, qB⟩
    | true =>
     simp only [if_true, Option.some.injEq, Prod.mk.injEq] at h
     obtain ⟨rfl, rfl, rfl, rfl, rfl⟩ := h
     go_wp2_with (first | (go_at_call 63; refine (impl_Circuit_putAdd.calls G w.heap.size q1 (.slice Ao q3.length co) q2 A1 A2 c1 c2 l1 l2 a3 w12 HB.out.size B5.out (Fr.C_came (Kd.heap_int .i64) HR1.out HB.out GG.out (Nat.le_refl _)) (Fr.C_came (Kd.heap_int .i64) HR2.out HB.out GG.out (Nat.le_refl _)) hi0 hi1 hgl hal HBL.out).mono ?_; rintro e w13 ⟨v3_, rfl, hbd, hv, hf⟩; rw [HGA.out] at hbd; rw [HVA.out] at hv; obtain ⟨gv, hG9, hR9⟩ := hbd; obtain ⟨Ag2, cg2, rfl⟩ := Kd.R_slice hR9; obtain ⟨Aw, cw, rfl⟩ := Kd.R_slice hv; have G6 := Aside0.mk hG9; have V6 := Aside0.mk hR9; have hO := hf.R V2.out (by decide) (fun k hk => Nat.ne_of_lt (Nat.lt_of_lt_of_le hk.2 hVG.out)); have O6 := Aside0.mk (Kd.R_mono (ok' := fun k_ => some k_ ≠ (Value.slice Aw va.length cw).ownBlock) hO (fun k hk he => by have := own_ge hv k he.symm; have := h812.out; have := hk.2; omega)); have W6 := Aside0.mk (Kd.R_lower (Kd.R_mono (ok' := fun k_ => some k_ ≠ (Value.slice Ao q3.length co).ownBlock) (Kd.R_bound hv) (fun k hk he => by have := (hO.1 k he.symm).2; have := h812.out; have := hk.2.1; omega)) HB.out.size); have R6 := Aside0.mk (hf.blk BR.out hgG (by decide)); have n_ := Aside0.mk (HB.out.trans (hf.below GG.out (Nat.le_refl _) HB.out.size)); clear HB; have HB := n_; clear n_ hG9 hR9 hv hf hO; have hj0 : w13.cell? ⟨G, 0, none⟩ = some (.int .i64 q1) := (blk_cell G6.out 0).trans rfl; have hj1 : w13.cell? ⟨G, 1, none⟩ = some (.slice Ag2 ga.length cg2) := (blk_cell G6.out 1).trans rfl; have hj2 : w13.cell? ⟨G, 2, none⟩ = some (.slice Ao q3.length co) := (blk_cell G6.out 2).trans rfl) | (go_at_call 14; refine (impl_GoodCircuit.calls k q1 _ cg2 ga _ co q3 true _ (Kd.R_reads' V6.out).2.2 (Kd.R_reads' V6.out).2.1 (Kd.R_reads' O6.out).2.2 (Kd.R_reads' O6.out).2.1 A5_.out).mono ?_; rintro e w14 ⟨rfl, hb⟩; have R8 := Aside0.mk (blk_below R6.out hb); have G8 := Aside0.mk (blk_below G6.out hb); have V8 := Aside0.mk (Kd.R_below V6.out hb); have O8 := Aside0.mk (Kd.R_below O6.out hb); have W8 := Aside0.mk (Kd.R_below W6.out hb); have n_ := Aside0.mk (below_step HB.out hb); clear HB; have HB := n_; clear n_ hb; have hj0 : w14.cell? ⟨G, 0, none⟩ = some (.int .i64 q1) := (blk_cell G8.out 0).trans rfl; have hj1 : w14.cell? ⟨G, 1, none⟩ = some (.slice Ag2 ga.length cg2) := (blk_cell G8.out 1).trans rfl; have hj2 : w14.cell? ⟨G, 2, none⟩ = some (.slice Ao q3.length co) := (blk_cell G8.out 2).trans rfl; have hy0 : w14.cell? ⟨gr, 0, none⟩ = some (.int .i64 0) := (blk_cell R8.out 0).trans rfl; have hy1 : w14.cell? ⟨gr, 1, none⟩ = some (.slice none 0 0) := (blk_cell R8.out 1).trans rfl; have hy2 : w14.cell? ⟨gr, 2, none⟩ = some (.slice none 0 0) := (blk_cell R8.out 2).trans rfl; have hyf0 := blk_frozen R8.out 0; have hyf1 := blk_frozen R8.out 1; have hyf2 := blk_frozen R8.out 2))
     refine bodyPost_ret (v := .tuple #[.agg #[.int .i64 q1, .slice Ag2 ga.length cg2, .slice Ao q3.length co], .slice Aw va.length cw, .bool true]) (by simp [results, Try.results35, go_sem, hy0, hy1, hy2]) rfl ⟨_, _, _, rfl, ?_, ?_, ?_, ?_⟩
     ·exact Kd.R_set (Kd.R_set (Kd.R_set V8.out R8.out (by decide) 0 _) (blk_put R8.out 0 _ rfl) (by decide) 1 _) (blk_put (blk_put R8.out 0 _ rfl) 1 _ rfl) (by decide) 2 _
     ·exact Kd.R_set (Kd.R_set (Kd.R_set O8.out R8.out (by decide) 0 _) (blk_put R8.out 0 _ rfl) (by decide) 1 _) (blk_put (blk_put R8.out 0 _ rfl) 1 _ rfl) (by decide) 2 _
     ·exact Kd.R_set (Kd.R_set (Kd.R_set W8.out R8.out (by decide) 0 _) (blk_put R8.out 0 _ rfl) (by decide) 1 _) (blk_put (blk_put R8.out 0 _ rfl) 1 _ rfl) (by decide) 2 _
     ·exact ((HB.out.setCell (p := ⟨gr, 0, none⟩) GR.out _).setCell (p := ⟨gr, 1, none⟩) GR.out _).setCell (p := ⟨gr, 2, none⟩) GR.out _
   ·cases h

end Go.Proofs.Ytimkjhdopncimaa.X
