/- Each Go function as a Lean function, with the proof that the call comes to just its answer; or a law's row out of its pure statement. Conditions: the arguments are of their kinds. Written by this session's program wip/xp/xp.sh. -/
import Derived.Test.YtckgeanmljmhfaaX0
import Derived.Test.YtckgeanmljmhfaaX4
import Derived.StillTailTactics
namespace Go.Proofs.Ytckgeanmljmhfaa.X
open Go.RowKit Go.Proofs.YtckgeanmljmhfaaW.PrintWords Go.Proofs.YtckgeanmljmhfaaW.PrintLast Go.Proofs.YtckgeanmljmhfaaW.PrintMore
attribute [local go_sem] max2_int min2_int max_two min_two max_three min_three max_four min_four   -- for this text's walks alone
set_option linter.unusedVariables false
set_option linter.unusedSimpArgs false

-- HAND
/-! ### spec_l4Build_add: function 93 -/
-- IMPORT Derived.StillTailTactics
set_option maxHeartbeats 16000000 in
set_option maxRecDepth 100000 in
/-- An adder that is put: its wires, and the circuit behind it. -/
theorem spec_l4Build_add.calls (G base : Nat) (ins : Int) (ov : Value) (g : List S93) (A1 A2 : Option Addr) (c1 c2 : Nat) (a b : List Int) (cr : Int) (w : World) (hb : base ≤ w.heap.size) (HBD : Bd 85 G base ins ov w g) (ha : (∀ W', Fr 93 G base w W' → Kd.C (Kd.int .i64) W' A1 a.length a)) (hb2 : (∀ W', Fr 93 G base w W' → Kd.C (Kd.int .i64) W' A2 b.length b)) (hi0 : 0 ≤ ins) (hi1 : ins ≤ 1000000) (hl : g.length ≤ 900000) (hal : a.length ≤ 10000) (hbl : b.length = a.length) :
 Calls Try.prog 93 #[.pointer (some ⟨G, 0, none⟩), .slice A1 a.length c1, .slice A2 b.length c2, .int .i64 cr] w fun e w' => ∃ v : Value, e = .returned v ∧ Bd 85 G base ins ov w' (addN ins a b cr g a.length).1 ∧ Kd.R (Kd.int .i64) 3 w' w.heap.size (fun k => k ≠ G) v (addN ins a b cr g a.length).2.1 ∧ Fr 93 G base w w' := by
 have hGlt : G < w.heap.size := by obtain ⟨gv, hG, _⟩ := HBD; exact blk_lt hG
 have HBD0 := Aside0.mk HBD
 have Hha := Aside0.mk ha
 have Hhb2 := Aside0.mk hb2
 have HBL := Aside0.mk hbl
 clear HBD ha hb2 hbl
 have hu1 := Try.underlying25
 go_enter Try.func93, Try.ntmps93
 go_wp2
 have HV0 := Aside0.mk (Kd.R_nil (Kd.int .i64) 3 w w.heap.size (fun k => k ≠ G))
 have HBD1 := HBD0
 have HF1 := Aside0.mk (Fr.refl 93 G base w)
 go_loopg [3, 9, 17] a.length (fun gg s3 so si wr => ∃ kk : Nat, kk ≤ a.length ∧ a.length - kk ≤ gg ∧ s3 = .int .i64 (addN ins a b cr g kk).2.2 ∧ si = .int .i64 kk ∧ Aside0 (Bd 85 G base ins ov wr (addN ins a b cr g kk).1) ∧ Aside0 (Kd.R (Kd.int .i64) 3 wr w.heap.size (fun k => k ≠ G) so (addN ins a b cr g kk).2.1) ∧ Aside0 (Fr 93 G base w wr))
 case atStart => exact ⟨0, Nat.zero_le _, by omega, rfl, rfl, HBD1, HV0, HF1⟩
 case round =>
 clear HBD0 HBD1 HV0 HF1
 obtain ⟨kk, hkk, hg, rfl, rfl, HBD, HV, HF⟩ := hrel
 have hlen := addN_len ins a b cr g kk
 by_cases hlt : kk < a.length
 ·have hltz : (kk : Int) < (a.length : Int) := by omega
   have hs : addN ins a b cr g (kk + 1) = ((addN ins a b cr g kk).1 ++ [⟨5, rd a kk, rd b kk⟩] ++ [⟨5, (ins + ((addN ins a b cr g kk).1.length : Int)), (addN ins a b cr g kk).2.2⟩] ++ [⟨3, rd a kk, rd b kk⟩] ++ [⟨3, (ins + ((addN ins a b cr g kk).1.length : Int)), (addN ins a b cr g kk).2.2⟩] ++ [⟨4, (ins + ((addN ins a b cr g kk).1.length : Int)) + 2, (ins + ((addN ins a b cr g kk).1.length : Int)) + 3⟩], (addN ins a b cr g kk).2.1 ++ [(ins + ((addN ins a b cr g kk).1.length : Int)) + 1], (ins + ((addN ins a b cr g kk).1.length : Int)) + 4) := rfl
   obtain ⟨gs, hgs⟩ : ∃ q, (addN ins a b cr g kk).1 = q := ⟨_, rfl⟩
   obtain ⟨os, hos⟩ : ∃ q, (addN ins a b cr g kk).2.1 = q := ⟨_, rfl⟩
   obtain ⟨cs, hcs⟩ : ∃ q, (addN ins a b cr g kk).2.2 = q := ⟨_, rfl⟩
   rw [hgs, hos] at hlen
   rw [hgs, hos, hcs] at hs
   rw [hgs] at HBD
   rw [hos] at HV
   rw [hcs]
   clear hgs hos hcs
   obtain ⟨hl1, hl2⟩ := hlen
   have hol : os.length ≤ 10000 := by omega
   have hgl : gs.length ≤ 950000 := by omega
   obtain ⟨d, hd⟩ : ∃ d, ins + (gs.length : Int) = d := ⟨_, rfl⟩
   rw [hd] at hs
   have hd0 : 0 ≤ d := by omega
   have hd1 : d ≤ 2000000 := by omega
   clear hl1 hl2
   obtain ⟨ad, e, hxa⟩ := Kd.at_int (Hha.out _ HF.out) (kk : Int) (by omega) hltz
   cases e
   rw [Int.toNat_natCast] at hxa
   have hltb : kk < b.length := by have := HBL.out; omega
   obtain ⟨ae, e, hya⟩ := Kd.at_int (Hhb2.out _ HF.out) (kk : Int) (by omega) (by omega)
   cases e
   rw [Int.toNat_natCast] at hya
   obtain ⟨x, hx⟩ : ∃ x, rd a kk = x := ⟨_, rfl⟩
   rw [hx] at hs hxa
   obtain ⟨y, hy⟩ : ∃ y, rd b kk = y := ⟨_, rfl⟩
   rw [hy] at hs hya
   have HX := Aside0.mk hx
   have HY := Aside0.mk hy
   clear hx hy
   obtain ⟨g1, hg1⟩ : ∃ q, q = gs ++ [(⟨5, x, y⟩ : S93)] := ⟨_, rfl⟩
   obtain ⟨g2, hg2⟩ : ∃ q, q = g1 ++ [(⟨5, d, cs⟩ : S93)] := ⟨_, rfl⟩
   obtain ⟨g3, hg3⟩ : ∃ q, q = g2 ++ [(⟨3, x, y⟩ : S93)] := ⟨_, rfl⟩
   obtain ⟨g4, hg4⟩ : ∃ q, q = g3 ++ [(⟨3, d, cs⟩ : S93)] := ⟨_, rfl⟩
   obtain ⟨g5, hg5⟩ : ∃ q, q = g4 ++ [(⟨4, (d + 2), (d + 3)⟩ : S93)] := ⟨_, rfl⟩
   rw [← hg1, ← hg2, ← hg3, ← hg4, ← hg5] at hs
   have n1 : (g1.length : Int) = gs.length + 1 := by rw [hg1]; simp; try omega
   have n2 : (g2.length : Int) = gs.length + 2 := by rw [hg2]; simp; try omega
   have n3 : (g3.length : Int) = gs.length + 3 := by rw [hg3]; simp; try omega
   have n4 : (g4.length : Int) = gs.length + 4 := by rw [hg4]; simp; try omega
   have N0 := Aside0.mk (show d = ins + (gs.length : Int) by omega)
   have L0 : gs.length ≤ 1000000 := by omega
   have N1 := Aside0.mk (show (d + 1) = ins + (g1.length : Int) by omega)
   have L1 : g1.length ≤ 1000000 := by omega
   have N2 := Aside0.mk (show (d + 2) = ins + (g2.length : Int) by omega)
   have L2 : g2.length ≤ 1000000 := by omega
   have N3 := Aside0.mk (show (d + 3) = ins + (g3.length : Int) by omega)
   have L3 : g3.length ≤ 1000000 := by omega
   have N4 := Aside0.mk (show (d + 4) = ins + (g4.length : Int) by omega)
   have L4 : g4.length ≤ 1000000 := by omega
   have G1 := Aside0.mk hg1
   have tok1 : True := trivial
   have G2 := Aside0.mk hg2
   have tok2 : True := trivial
   have G3 := Aside0.mk hg3
   have tok3 : True := trivial
   have G4 := Aside0.mk hg4
   have tok4 : True := trivial
   have G5 := Aside0.mk hg5
   have tok5 : True := trivial
   have HS := Aside0.mk hs
   clear hs hd hg1 hg2 hg3 hg4 hg5 n1 n2 n3 n4
   clear hgl
   go_wp2
   go_still_tail 9, (by kernel_rfl)
   change wpList _ _ _ _ _ wr.drew
   have BD1 := Aside0.mk (HBD.out.drew)
   have FD1 := Aside0.mk (HF.out.drew)
   have VD1 := Aside0.mk (Kd.R_drew HV.out)
   clear hxa hya
   generalize wr.drew = W1 at BD1 FD1 VD1 ⊢
   have hxa := Fr.cellAt FD1.out Hha.out hlt HX.out
   have hya := Fr.cellAt FD1.out Hhb2.out hltb HY.out
   go_wp2_with (first
     | (go_at_call 92; have _t := tok1; refine (spec_l4Build_gate.calls G base ins ov gs g1 5 x y d _ (Nat.le_trans hb FD1.out.size) BD1.out hi0 hi1 L0 N0.out G1.out).mono ?_; rintro e w1 ⟨rfl, hbd, hf⟩; have B1 := Aside0.mk hbd; have F1 := Aside0.mk (FD1.out.trans hf); have V1 := Aside0.mk (Fr.R hf VD1.out (by decide) (fun _ hk => hk)); clear tok1 hbd hf hxa hya; have hxa := Fr.cellAt F1.out Hha.out hlt HX.out; have hya := Fr.cellAt F1.out Hhb2.out hltb HY.out)
     | (go_at_call 92; have _t := tok2; refine (spec_l4Build_gate.calls G base ins ov g1 g2 5 d cs (d + 1) _ (Nat.le_trans hb F1.out.size) B1.out hi0 hi1 L1 N1.out G2.out).mono ?_; rintro e w2 ⟨rfl, hbd, hf⟩; have B2 := Aside0.mk hbd; have F2 := Aside0.mk (F1.out.trans hf); have V2 := Aside0.mk (Fr.R hf V1.out (by decide) (fun _ hk => hk)); clear tok2 hbd hf hxa hya; have hxa := Fr.cellAt F2.out Hha.out hlt HX.out; have hya := Fr.cellAt F2.out Hhb2.out hltb HY.out))
   go_still_tail 9, (by kernel_rfl)
   change wpList _ _ _ _ _ w2.drew
   have BD2 := Aside0.mk (B2.out.drew)
   have FD2 := Aside0.mk (F2.out.drew)
   have VD2 := Aside0.mk (Kd.R_drew V2.out)
   clear hxa hya
   generalize w2.drew = W2 at BD2 FD2 VD2 ⊢
   have hxa := Fr.cellAt FD2.out Hha.out hlt HX.out
   have hya := Fr.cellAt FD2.out Hhb2.out hltb HY.out
   go_wp2_with (first
     | (go_at_call 92; have _t := tok3; refine (spec_l4Build_gate.calls G base ins ov g2 g3 3 x y (d + 2) _ (Nat.le_trans hb FD2.out.size) BD2.out hi0 hi1 L2 N2.out G3.out).mono ?_; rintro e w3 ⟨rfl, hbd, hf⟩; have B3 := Aside0.mk hbd; have F3 := Aside0.mk (FD2.out.trans hf); have V3 := Aside0.mk (Fr.R hf VD2.out (by decide) (fun _ hk => hk)); clear tok3 hbd hf hxa hya; have hxa := Fr.cellAt F3.out Hha.out hlt HX.out; have hya := Fr.cellAt F3.out Hhb2.out hltb HY.out)
     | (go_at_call 92; have _t := tok4; refine (spec_l4Build_gate.calls G base ins ov g3 g4 3 d cs (d + 3) _ (Nat.le_trans hb F3.out.size) B3.out hi0 hi1 L3 N3.out G4.out).mono ?_; rintro e w4 ⟨rfl, hbd, hf⟩; have B4 := Aside0.mk hbd; have F4 := Aside0.mk (F3.out.trans hf); have V4 := Aside0.mk (Fr.R hf V3.out (by decide) (fun _ hk => hk)); clear tok4 hbd hf hxa hya; have hxa := Fr.cellAt F4.out Hha.out hlt HX.out; have hya := Fr.cellAt F4.out Hhb2.out hltb HY.out)
     | (go_at_call 92; have _t := tok5; refine (spec_l4Build_gate.calls G base ins ov g4 g5 4 (d + 2) (d + 3) (d + 4) _ (Nat.le_trans hb F4.out.size) B4.out hi0 hi1 L4 N4.out G5.out).mono ?_; rintro e w5 ⟨rfl, hbd, hf⟩; have B5 := Aside0.mk hbd; have F5 := Aside0.mk (F4.out.trans hf); have V5 := Aside0.mk (Fr.R hf V4.out (by decide) (fun _ hk => hk)); clear tok5 hbd hf hxa hya; have hxa := Fr.cellAt F5.out Hha.out hlt HX.out; have hya := Fr.cellAt F5.out Hhb2.out hltb HY.out)
     | ((with_reducible refine gate_builtin (b := .append) (xs := #[.tmp 52, .tmp 54]) rfl ?_); at_builtin; refine Kd.R_append (Kd.int .i64) (w0 := w5) w.heap.size rfl (.tmp 52) (.tmp 54) 25 3 (.int .i64 0) 8 rfl Try.underlying25 info_int rfl (by decide) (by omega) _ os (d + 1) [.int .i64 (d + 1)] (fun k => k ≠ G) (fun _ => False) rfl (by first | (go_simp; done) | (go_simp; rfl)) ?aP (fun _ hk => hk.elim) ?aF ?aO ?aB ?aS ?aL ?_; (case aP => exact rfl); (case aF => intro k hk; have hsz_ := F5.out.size; omega); (case aO => exact V5.out); (case aB => exact Below.refl _ _); (case aS => exact F5.out.size); (case aL => omega); intro v22 w22 hv _ hg_ _; have V22 := Aside0.mk hv; have B22 := Aside0.mk (Bd.grown B5.out hg_ (Kd.R_typed V5.out) (by decide) (by decide)); have F22 := Aside0.mk (Fr.grown_new F5.out hg_ (own_ge V5.out)); clear hv hg_ hxa hya; have hxa := Fr.cellAt F22.out Hha.out hlt HX.out; have hya := Fr.cellAt F22.out Hhb2.out hltb HY.out))
   go_roundg (a.length - (kk + 1))
   case measure => omega
   case rel => exact ⟨kk + 1, by omega, by omega, by rw [HS.out], by go_num, by rw [HS.out]; exact B22, by rw [HS.out]; exact V22, F22⟩
 ·have hltz : ¬ (kk : Int) < (a.length : Int) := by omega
   obtain rfl : kk = a.length := by omega
   go_wp2
   go_ret
   exact ⟨_, rfl, HBD.out, HV.out, HF.out⟩


-- HAND
/-! ### spec_l4Build_mul: function 94 -/
-- IMPORT Derived.StillTailTactics
set_option maxHeartbeats 16000000 in
set_option maxRecDepth 100000 in
/-- A multiplier that is put: its wires, and the circuit behind it. -/
theorem spec_l4Build_mul.calls (G base : Nat) (ins : Int) (ov : Value) (g : List S93) (A1 A2 : Option Addr) (c1 c2 : Nat) (a b : List Int) (w : World) (hb : base ≤ w.heap.size) (HBD : Bd 85 G base ins ov w g) (ha : (∀ W', Fr 93 G base w W' → Kd.C (Kd.int .i64) W' A1 a.length a)) (hb2 : (∀ W', Fr 93 G base w W' → Kd.C (Kd.int .i64) W' A2 b.length b)) (hi0 : 0 ≤ ins) (hi1 : ins ≤ 1000000) (hl : g.length ≤ 900000) (hlm : g.length ≤ 800000) (hal : a.length ≤ 50) (hbl : b.length = a.length) :
 Calls Try.prog 94 #[.pointer (some ⟨G, 0, none⟩), .slice A1 a.length c1, .slice A2 b.length c2] w fun e w' => ∃ v : Value, e = .returned v ∧ Bd 85 G base ins ov w' (mulN ins a b g b.length).1 ∧ Kd.R (Kd.int .i64) 3 w' w.heap.size (fun k => k ≠ G) v (mulN ins a b g b.length).2 ∧ Fr 93 G base w w' := by
 have hGlt : G < w.heap.size := by obtain ⟨gv, hG, _⟩ := HBD; exact blk_lt hG
 have HBD0 := Aside0.mk HBD
 have Hha := Aside0.mk ha
 have Hhb2 := Aside0.mk hb2
 have HBL := Aside0.mk hbl
 clear HBD ha hb2 hbl
 have hu1 := Try.underlying25
 have tok0 : True := trivial
 have tokA : True := trivial
 go_enter Try.func94, Try.ntmps94
 go_wp2_with (go_at_call 62; have _t := tok0; refine (spec_l4Build_bits.calls G base ins ov g 0 a.length w hb HBD0.out hi0 hi1 hl (by omega) (by omega) (by omega)).mono ?_; rintro e w0 ⟨v0, rfl, hbd, hv, hf⟩; have B0 := Aside0.mk hbd; have V0 := Aside0.mk hv; have F0 := Aside0.mk hf; clear tok0 hbd hv hf)
 have HZ := Aside0.mk (show emitN ins (fun i => ⟨1, bitv 0 i, 0⟩) g a.length = mulN ins a b g 0 from by simp only [bitv_zero]; rfl)
 rw [HZ.out] at B0 V0
 clear HZ
 go_loopg [7, 18] b.length (fun gg so si wr => ∃ kk : Nat, kk ≤ b.length ∧ b.length - kk ≤ gg ∧ si = .int .i64 kk ∧ Aside0 (Bd 85 G base ins ov wr (mulN ins a b g kk).1) ∧ Aside0 (Kd.R (Kd.int .i64) 3 wr w.heap.size (fun k => k ≠ G) so (mulN ins a b g kk).2) ∧ Aside0 (Fr 93 G base w wr))
 case atStart => exact ⟨0, Nat.zero_le _, by omega, rfl, B0, V0, F0⟩
 case round =>
 clear HBD0 B0 V0 F0
 obtain ⟨kk, hkk, hg, rfl, HBD, HV, HF⟩ := hrel
 have hlen := mulN_len ins a b g kk
 by_cases hlt : kk < b.length
 ·have hltz : (kk : Int) < (b.length : Int) := by omega
   have hs : mulN ins a b g (kk + 1) = ((addN ins (mulN ins a b g kk).2 (emitN ins (mulF a b kk) (mulN ins a b g kk).1 a.length).2 (ins + ((emitN ins (mulF a b kk) (mulN ins a b g kk).1 a.length).1.length : Int)) ((emitN ins (mulF a b kk) (mulN ins a b g kk).1 a.length).1 ++ [⟨1, 0, 0⟩]) (mulN ins a b g kk).2.length).1, (addN ins (mulN ins a b g kk).2 (emitN ins (mulF a b kk) (mulN ins a b g kk).1 a.length).2 (ins + ((emitN ins (mulF a b kk) (mulN ins a b g kk).1 a.length).1.length : Int)) ((emitN ins (mulF a b kk) (mulN ins a b g kk).1 a.length).1 ++ [⟨1, 0, 0⟩]) (mulN ins a b g kk).2.length).2.1) := rfl
   have hkl : kk * (6 * a.length + 1) ≤ 50 * (6 * 50 + 1) := Nat.mul_le_mul (by have := HBL.out; omega) (by omega)
   obtain ⟨gs, hgs⟩ : ∃ q, (mulN ins a b g kk).1 = q := ⟨_, rfl⟩
   obtain ⟨ss, hss⟩ : ∃ q, (mulN ins a b g kk).2 = q := ⟨_, rfl⟩
   rw [hgs, hss] at hlen hs
   rw [hgs] at HBD
   rw [hss] at HV
   clear hgs hss
   obtain ⟨hl1, hl2⟩ := hlen
   have hgl : gs.length ≤ 820000 := by omega
   clear hl1 hkl
   have HSS := Aside0.mk hl2
   have HSL : ss.length ≤ 10000 := by omega
   clear hl2
   obtain ⟨A7, c7, rfl⟩ := Kd.R_slice HV.out
   have HS := Aside0.mk hs
   clear hs
   obtain ⟨y, hy⟩ : ∃ y, rd b kk = y := ⟨_, rfl⟩
   have HY := Aside0.mk hy
   clear hy
   have HKK := Aside0.mk hkk
   have hkb : kk ≤ 50 := by have := HBL.out; omega
   clear hkk
   obtain ⟨ae, e, hya0⟩ := Kd.at_int (Hhb2.out _ HF.out) (kk : Int) (by omega) hltz
   cases e
   clear hya0
   have hszr := HF.out.size
   go_wp2
   obtain ⟨N5, hN5⟩ : ∃ q, wr.heap.size = q := ⟨_, rfl⟩
   have P0 := Aside0.mk (Kd.R_nil (Kd.int .i64) 3 wr wr.heap.size (fun k => k ≠ G))
   have Q0 := Aside0.mk (R_till HV.out)
   have B5 := HBD
   have F5 := HF
   simp only [hN5] at P0 Q0
   have HN5 := Aside0.mk hN5
   have hN5l : w.heap.size ≤ N5 := by omega
   have hN5G : G < N5 := by omega
   clear hN5 HBD HF
   go_loopg [9, 23] a.length (fun gg so si wr => ∃ ii : Nat, ii ≤ a.length ∧ a.length - ii ≤ gg ∧ si = .int .i64 ii ∧ Aside0 (Bd 85 G base ins ov wr (emitN ins (mulF a b kk) gs ii).1) ∧ Aside0 (Kd.R (Kd.int .i64) 3 wr N5 (fun k => k ≠ G) so (emitN ins (mulF a b kk) gs ii).2) ∧ Aside0 (Kd.R (Kd.int .i64) 3 wr w.heap.size (fun k => k ≠ G ∧ k < N5) (.slice A7 ss.length c7) ss) ∧ Aside0 (Fr 93 G base w wr) ∧ N5 ≤ wr.heap.size)
   case atStart => exact ⟨0, Nat.zero_le _, by omega, rfl, B5, P0, Q0, F5, by have hn_ := HN5.out; first | omega | (simp; omega)⟩
   case round =>
  clear B5 P0 Q0 F5
  obtain ⟨ii, hii, hg2, rfl, HBD, HP, HQ, HF, hsz5⟩ := hrel
  have hlen := emitN_len ins (mulF a b kk) gs ii
  by_cases hlt2 : ii < a.length
  ·have hlt2z : (ii : Int) < (a.length : Int) := by omega
     have hs2 : emitN ins (mulF a b kk) gs (ii + 1) = ((emitN ins (mulF a b kk) gs ii).1 ++ [mulF a b kk ii], (emitN ins (mulF a b kk) gs ii).2 ++ [ins + ((emitN ins (mulF a b kk) gs ii).1.length : Int)]) := rfl
     obtain ⟨gt, hgt⟩ : ∃ q, (emitN ins (mulF a b kk) gs ii).1 = q := ⟨_, rfl⟩
     obtain ⟨os, hos⟩ : ∃ q, (emitN ins (mulF a b kk) gs ii).2 = q := ⟨_, rfl⟩
     rw [hgt, hos] at hlen hs2
     rw [hgt] at HBD
     rw [hos] at HP
     clear hgt hos
     obtain ⟨hl1, hl2⟩ := hlen
     have hol : os.length ≤ 10000 := by omega
     have L0 : gt.length ≤ 1000000 := by omega
     obtain ⟨d, hd⟩ : ∃ d, ins + (gt.length : Int) = d := ⟨_, rfl⟩
     rw [hd] at hs2
     have N0 := Aside0.mk hd.symm
     have hd0 : 0 ≤ d := by omega
     have hd1 : d ≤ 2000000 := by omega
     clear hl1 hl2 hd
     by_cases hik : ii < kk
     ·have hikz : (ii : Int) < (kk : Int) := by omega
   have hd2 : decide (ii < kk) = true := decide_eq_true hik
   have hd3 : decide ((ii : Int) < (kk : Int)) = true := decide_eq_true hikz
   obtain ⟨g1, hg1⟩ : ∃ q, q = gt ++ [(⟨1, 0, 0⟩ : S93)] := ⟨_, rfl⟩
   rw [show mulF a b kk ii = ⟨1, 0, 0⟩ from if_pos hik, ← hg1] at hs2
   have HS2 := Aside0.mk hs2
   have G1 := Aside0.mk hg1
   have tok1 : True := trivial
   clear hs2 hg1
   go_wp2_with (first | (go_at_call 92; have _t := tok1; refine (spec_l4Build_gate.calls G base ins ov gt g1 1 0 0 d _ (Nat.le_trans hb HF.out.size) HBD.out hi0 hi1 L0 N0.out G1.out).mono ?_; rintro e w1 ⟨rfl, hbd, hf⟩; have B1 := Aside0.mk hbd; have F1 := Aside0.mk (HF.out.trans hf); have hsz1 : N5 ≤ w1.heap.size := Nat.le_trans hsz5 hf.size; have P1 := Aside0.mk (Fr.R hf HP.out (by decide) (fun _ hk => hk)); have Q1 := Aside0.mk (Fr.R hf HQ.out (by decide) (fun _ hk => hk.1)); clear tok1 hbd hf) | ((with_reducible refine gate_builtin (b := .append) (xs := #[.tmp 29, .tmp 32]) rfl ?_); at_builtin; refine Kd.R_append (Kd.int .i64) (w0 := w1) N5 rfl (.tmp 29) (.tmp 32) 25 3 (.int .i64 0) 8 rfl Try.underlying25 info_int rfl (by decide) (by omega) _ os d [.int .i64 d] (fun k => k ≠ G) (fun _ => False) rfl (by first | (go_simp; done) | (go_simp; rfl)) ?aP (fun _ hk => hk.elim) ?aF ?aO ?aB ?aS ?aL ?_; (case aP => exact rfl); (case aF => intro k hk; omega); (case aO => exact P1.out); (case aB => exact Below.refl _ _); (case aS => exact hsz1); (case aL => omega); intro v22 w22 hv _ hg_ _; have P22 := Aside0.mk hv; have Q22 := Aside0.mk (R_old_grown Q1.out hg_ (own_ge P1.out)); have B22 := Aside0.mk (Bd.grown B1.out hg_ (Kd.R_typed P1.out) (by decide) (by decide)); have F22 := Aside0.mk (Fr.grown_new F1.out hg_ (fun k e_ => Nat.le_trans hN5l (own_ge P1.out k e_))); have hsz22 : N5 ≤ w22.heap.size := Nat.le_trans hsz1 hg_.size; clear hv hg_))
   go_roundg (a.length - (ii + 1))
   case measure => omega
   case rel => exact ⟨ii + 1, by omega, by omega, by go_num, by rw [HS2.out]; exact B22, by rw [HS2.out]; exact P22, Q22, F22, hsz22⟩
     ·have hikz : ¬ (ii : Int) < (kk : Int) := by omega
   have hd2 : decide (ii < kk) = false := decide_eq_false hik
   have hd3 : decide ((ii : Int) < (kk : Int)) = false := decide_eq_false hikz
   have hij0 : 0 ≤ (ii : Int) - kk := by omega
   have hij1 : (ii : Int) - kk < a.length := by omega
   have hijn : ((ii : Int) - kk).toNat = ii - kk := by omega
   obtain ⟨x, hx⟩ : ∃ x, rd a ((ii : Int) - kk) = x := ⟨_, rfl⟩
   obtain ⟨g1, hg1⟩ : ∃ q, q = gt ++ [(⟨3, x, y⟩ : S93)] := ⟨_, rfl⟩
   rw [show mulF a b kk ii = ⟨3, x, y⟩ from by rw [← hx, ← HY.out]; exact if_neg hik, ← hg1] at hs2
   have HS2 := Aside0.mk hs2
   have G1 := Aside0.mk hg1
   have HX := Aside0.mk hx
   have tok1 : True := trivial
   clear hs2 hg1 hx
   obtain ⟨ad, e, hxa⟩ := Kd.at_int (Hha.out _ HF.out) ((ii : Int) - kk) hij0 hij1
   cases e
   rw [HX.out] at hxa
   have hya := Fr.cellAt HF.out Hhb2.out hlt HY.out
   try simp only [hijn] at hxa
   have hwij : IntKind.i64.wrap ((ii : Int) - kk) = (ii : Int) - kk := IntWalk.i64_in _ (by omega)
   go_wp2
   have BD := Aside0.mk (HBD.out.drew)
   have FD := Aside0.mk (HF.out.drew)
   have PD := Aside0.mk (Kd.R_drew HP.out)
   have QD := Aside0.mk (Kd.R_drew HQ.out)
   go_region_held3 (fun w' => w'.cell? (ad.add (ii - kk)) = some (.int .i64 x) ∧ w'.cell? (ae.add kk) = some (.int .i64 y)) (first | exact ⟨hxa, hya⟩ | exact ⟨bd_cell_new hxa _, bd_cell_new hya _⟩ | go_keep) (first | (go_at_call 92; have _t := tok1; refine (spec_l4Build_gate.calls G base ins ov gt g1 3 x y d _ (Nat.le_trans hb FD.out.size) BD.out hi0 hi1 L0 N0.out G1.out).mono ?_; rintro e w1 ⟨rfl, hbd, hf⟩; have B1 := Aside0.mk hbd; have F1 := Aside0.mk (FD.out.trans hf); have hsz1 : N5 ≤ w1.heap.size := Nat.le_trans hsz5 hf.size; have P1 := Aside0.mk (Fr.R hf PD.out (by decide) (fun _ hk => hk)); have Q1 := Aside0.mk (Fr.R hf QD.out (by decide) (fun _ hk => hk.1)); clear tok1 hbd hf hxa hya; have hxa := Fr.cellAtI F1.out Hha.out hij0 hij1 HX.out; have hya := Fr.cellAt F1.out Hhb2.out hlt HY.out; try simp only [hijn] at hxa) | (refine Kd.R_append_step (Kd.int .i64) (w0 := w1) N5 (by rfl) (.tmp 34) (.tmp 47) 25 3 (.int .i64 0) 8 rfl Try.underlying25 info_int rfl (by decide) (by omega) _ os d [.int .i64 d] (fun k => k ≠ G) (fun _ => False) rfl (by first | (go_simp; done) | (go_simp; rfl)) ?aP (fun _ hk => hk.elim) ?aF ?aO ?aB ?aS ?aL ?_; (case aP => exact rfl); (case aF => intro k hk; omega); (case aO => exact P1.out); (case aB => exact Below.refl _ _); (case aS => exact hsz1); (case aL => omega); intro v22 w22 hv _ hg_ _; have P22 := Aside0.mk hv; have Q22 := Aside0.mk (R_old_grown Q1.out hg_ (own_ge P1.out)); have B22 := Aside0.mk (Bd.grown B1.out hg_ (Kd.R_typed P1.out) (by decide) (by decide)); have F22 := Aside0.mk (Fr.grown_new F1.out hg_ (fun k e_ => Nat.le_trans hN5l (own_ge P1.out k e_))); have hsz22 : N5 ≤ w22.heap.size := Nat.le_trans hsz1 hg_.size; clear hv hg_ hxa hya; have hxa := Fr.cellAtI F22.out Hha.out hij0 hij1 HX.out; have hya := Fr.cellAt F22.out Hhb2.out hlt HY.out; try simp only [hijn] at hxa))
   go_wp2
   go_roundg (a.length - (ii + 1))
   case measure => omega
   case rel => exact ⟨ii + 1, by omega, by omega, by go_num, by rw [HS2.out]; exact B22, by rw [HS2.out]; exact P22, Q22, F22, hsz22⟩
  ·have hlt2z : ¬ (ii : Int) < (a.length : Int) := by omega
     obtain rfl : ii = a.length := by omega
     obtain ⟨gp, hgp⟩ : ∃ q, (emitN ins (mulF a b kk) gs a.length).1 = q := ⟨_, rfl⟩
     obtain ⟨os, hos⟩ : ∃ q, (emitN ins (mulF a b kk) gs a.length).2 = q := ⟨_, rfl⟩
     have hs3 := HS.out
     rw [hgp, hos] at hlen hs3
     rw [hgp] at HBD
     rw [hos] at HP
     clear hgp hos HS
     obtain ⟨hl1, hl2⟩ := hlen
     obtain ⟨A9, c9, rfl⟩ := Kd.R_slice HP.out
     have HOS := Aside0.mk (show os.length = ss.length by have := HSS.out; omega)
     have L0 : gp.length ≤ 1000000 := by omega
     obtain ⟨gq, hgq⟩ : ∃ q, q = gp ++ [(⟨1, 0, 0⟩ : S93)] := ⟨_, rfl⟩
     have L1 : gq.length ≤ 900000 := by rw [hgq, List.length_append, List.length_singleton]; omega
     obtain ⟨d, hd⟩ : ∃ d, ins + (gp.length : Int) = d := ⟨_, rfl⟩
     rw [hd, ← hgq] at hs3
     have N0 := Aside0.mk hd.symm
     have G1 := Aside0.mk hgq
     have HS3 := Aside0.mk hs3
     have hd0 : 0 ≤ d := by omega
     have hd1 : d ≤ 2000000 := by omega
     have tok2 : True := trivial
     clear hl1 hl2 hd hgq hs3
     go_wp2_with (first | (go_at_call 92; have _t := tok2; refine (spec_l4Build_gate.calls G base ins ov gp gq 1 0 0 d _ (Nat.le_trans hb HF.out.size) HBD.out hi0 hi1 L0 N0.out G1.out).mono ?_; rintro e w1 ⟨rfl, hbd, hf⟩; have B1 := Aside0.mk hbd; have F1 := Aside0.mk (HF.out.trans hf); have P1 := Aside0.mk (Fr.R hf HP.out (by decide) (fun _ hk => hk)); have Q1 := Aside0.mk (Fr.R hf HQ.out (by decide) (fun _ hk => hk.1)); clear tok2 hbd hf) | (go_at_call 93; have _t := tokA; refine (spec_l4Build_add.calls G base ins ov gq A7 A9 c7 c9 ss os d w1 (Nat.le_trans hb F1.out.size) B1.out (Fr.C_own Q1.out (by decide) (fun _ hk => hk.1)) (Fr.C_own P1.out (by decide) (fun _ hk => hk)) hi0 hi1 L1 HSL HOS.out).mono ?_; rintro e w2 ⟨v2, rfl, hbd, hv, hf⟩; have B2 := Aside0.mk hbd; have V2 := Aside0.mk (Kd.R_lower hv F1.out.size); have F2 := Aside0.mk (F1.out.trans hf); clear tokA hbd hv hf))
     go_roundg (b.length - (kk + 1))
     case measure => omega
     case rel => exact ⟨kk + 1, by omega, by omega, by go_num, by rw [HS3.out]; exact B2, by rw [HS3.out]; exact V2, F2⟩
 ·have hltz : ¬ (kk : Int) < (b.length : Int) := by omega
   obtain rfl : kk = b.length := by omega
   go_wp2
   go_ret
   exact ⟨_, rfl, HBD.out, HV.out, HF.out⟩


-- HAND
/-! ### spec_l4Build_each: function 95 -/
-- IMPORT Derived.StillTailTactics
set_option maxHeartbeats 16000000 in
set_option maxRecDepth 100000 in
/-- A gate for each position. -/
theorem spec_l4Build_each.calls (G base : Nat) (ins : Int) (ov : Value) (g : List S93) (kd : Int) (A1 A2 : Option Addr) (c1 c2 : Nat) (a b : List Int) (w : World) (hb : base ≤ w.heap.size) (HBD : Bd 85 G base ins ov w g) (ha : (∀ W', Fr 93 G base w W' → Kd.C (Kd.int .i64) W' A1 a.length a)) (hb2 : (∀ W', Fr 93 G base w W' → Kd.C (Kd.int .i64) W' A2 b.length b)) (hi0 : 0 ≤ ins) (hi1 : ins ≤ 1000000) (hl : g.length ≤ 900000) (hal : a.length ≤ 10000) (hbl : b.length = a.length) :
 Calls Try.prog 95 #[.pointer (some ⟨G, 0, none⟩), .int .i64 kd, .slice A1 a.length c1, .slice A2 b.length c2] w fun e w' => ∃ v : Value, e = .returned v ∧ Bd 85 G base ins ov w' (emitN ins (fun i => ⟨kd, rd a i, rd b i⟩) g a.length).1 ∧ Kd.R (Kd.int .i64) 3 w' w.heap.size (fun k => k ≠ G) v (emitN ins (fun i => ⟨kd, rd a i, rd b i⟩) g a.length).2 ∧ Fr 93 G base w w' := by
 have hGlt : G < w.heap.size := by obtain ⟨gv, hG, _⟩ := HBD; exact blk_lt hG
 have HBD0 := Aside0.mk HBD
 have Hha := Aside0.mk ha
 have Hhb2 := Aside0.mk hb2
 have HBL := Aside0.mk hbl
 clear HBD ha hb2 hbl
 have hu1 := Try.underlying25
 go_enter Try.func95, Try.ntmps95
 go_wp2
 have HV0 := Aside0.mk (Kd.R_nil (Kd.int .i64) 3 w w.heap.size (fun k => k ≠ G))
 have HBD1 := HBD0
 have HF1 := Aside0.mk (Fr.refl 93 G base w)
 go_loopg [9, 13] a.length (fun gg so si wr => ∃ kk : Nat, kk ≤ a.length ∧ a.length - kk ≤ gg ∧ si = .int .i64 kk ∧ Aside0 (Bd 85 G base ins ov wr (emitN ins (fun i => ⟨kd, rd a i, rd b i⟩) g kk).1) ∧ Aside0 (Kd.R (Kd.int .i64) 3 wr w.heap.size (fun k => k ≠ G) so (emitN ins (fun i => ⟨kd, rd a i, rd b i⟩) g kk).2) ∧ Aside0 (Fr 93 G base w wr))
 case atStart => exact ⟨0, Nat.zero_le _, by omega, rfl, HBD1, HV0, HF1⟩
 case round =>
 clear HBD0 HBD1 HV0 HF1
 obtain ⟨kk, hkk, hg, rfl, HBD, HV, HF⟩ := hrel
 have hlen := emitN_len ins (fun i => ⟨kd, rd a i, rd b i⟩) g kk
 by_cases hlt : kk < a.length
 ·have hltz : (kk : Int) < (a.length : Int) := by omega
   have hs : emitN ins (fun i => ⟨kd, rd a i, rd b i⟩) g (kk + 1) = ((emitN ins (fun i => ⟨kd, rd a i, rd b i⟩) g kk).1 ++ [⟨kd, rd a kk, rd b kk⟩], (emitN ins (fun i => ⟨kd, rd a i, rd b i⟩) g kk).2 ++ [(ins + ((emitN ins (fun i => ⟨kd, rd a i, rd b i⟩) g kk).1.length : Int))]) := rfl
   obtain ⟨gs, hgs⟩ : ∃ q, (emitN ins (fun i => ⟨kd, rd a i, rd b i⟩) g kk).1 = q := ⟨_, rfl⟩
   obtain ⟨os, hos⟩ : ∃ q, (emitN ins (fun i => ⟨kd, rd a i, rd b i⟩) g kk).2 = q := ⟨_, rfl⟩
   rw [hgs, hos] at hlen hs
   rw [hgs] at HBD
   rw [hos] at HV
   clear hgs hos
   obtain ⟨hl1, hl2⟩ := hlen
   have hol : os.length ≤ 10000 := by omega
   have hgl : gs.length ≤ 950000 := by omega
   obtain ⟨d, hd⟩ : ∃ d, ins + (gs.length : Int) = d := ⟨_, rfl⟩
   rw [hd] at hs
   have hd0 : 0 ≤ d := by omega
   have hd1 : d ≤ 2000000 := by omega
   clear hl1 hl2
   obtain ⟨ad, e, hxa⟩ := Kd.at_int (Hha.out _ HF.out) (kk : Int) (by omega) hltz
   cases e
   rw [Int.toNat_natCast] at hxa
   have hltb : kk < b.length := by have := HBL.out; omega
   obtain ⟨ae, e, hya⟩ := Kd.at_int (Hhb2.out _ HF.out) (kk : Int) (by omega) (by omega)
   cases e
   rw [Int.toNat_natCast] at hya
   obtain ⟨x, hx⟩ : ∃ x, rd a kk = x := ⟨_, rfl⟩
   rw [hx] at hs hxa
   obtain ⟨y, hy⟩ : ∃ y, rd b kk = y := ⟨_, rfl⟩
   rw [hy] at hs hya
   have HX := Aside0.mk hx
   have HY := Aside0.mk hy
   clear hx hy
   obtain ⟨g1, hg1⟩ : ∃ q, q = gs ++ [(⟨kd, x, y⟩ : S93)] := ⟨_, rfl⟩
   rw [← hg1] at hs
   have N0 := Aside0.mk (show d = ins + (gs.length : Int) by omega)
   have L0 : gs.length ≤ 1000000 := by omega
   have G1 := Aside0.mk hg1
   have tok1 : True := trivial
   have HS := Aside0.mk hs
   clear hs hd hg1
   clear hgl
   go_wp2
   have BD1 := Aside0.mk (HBD.out.drew)
   have FD1 := Aside0.mk (HF.out.drew)
   have VD1 := Aside0.mk (Kd.R_drew HV.out)
   go_region_held3 (fun w' => w'.cell? (ad.add kk) = some (.int .i64 x) ∧ w'.cell? (ae.add kk) = some (.int .i64 y)) (first | exact ⟨hxa, hya⟩ | exact ⟨bd_cell_new hxa _, bd_cell_new hya _⟩ | go_keep) (first | (go_at_call 92; have _t := tok1; refine (spec_l4Build_gate.calls G base ins ov gs g1 kd x y d _ (Nat.le_trans hb FD1.out.size) BD1.out hi0 hi1 L0 N0.out G1.out).mono ?_; rintro e w1 ⟨rfl, hbd, hf⟩; have B1 := Aside0.mk hbd; have F1 := Aside0.mk (FD1.out.trans hf); have V1 := Aside0.mk (Fr.R hf VD1.out (by decide) (fun _ hk => hk)); clear tok1 hbd hf hxa hya; have hxa := Fr.cellAt F1.out Hha.out hlt HX.out; have hya := Fr.cellAt F1.out Hhb2.out hltb HY.out) | (refine Kd.R_append_step (Kd.int .i64) (w0 := w1) w.heap.size (by rfl) (.tmp 16) (.tmp 28) 25 3 (.int .i64 0) 8 rfl Try.underlying25 info_int rfl (by decide) (by omega) _ os d [.int .i64 d] (fun k => k ≠ G) (fun _ => False) rfl (by first | (go_simp; done) | (go_simp; rfl)) ?aP (fun _ hk => hk.elim) ?aF ?aO ?aB ?aS ?aL ?_; (case aP => exact rfl); (case aF => intro k hk; have hsz_ := F1.out.size; omega); (case aO => exact V1.out); (case aB => exact Below.refl _ _); (case aS => exact F1.out.size); (case aL => omega); intro v22 w22 hv _ hg_ _; have V22 := Aside0.mk hv; have B22 := Aside0.mk (Bd.grown B1.out hg_ (Kd.R_typed V1.out) (by decide) (by decide)); have F22 := Aside0.mk (Fr.grown_new F1.out hg_ (own_ge V1.out)); clear hv hg_ hxa hya; have hxa := Fr.cellAt F22.out Hha.out hlt HX.out; have hya := Fr.cellAt F22.out Hhb2.out hltb HY.out))
   go_wp2
   go_roundg (a.length - (kk + 1))
   case measure => omega
   case rel => exact ⟨kk + 1, by omega, by omega, by go_num, by rw [HS.out]; exact B22, by rw [HS.out]; exact V22, F22⟩
 ·have hltz : ¬ (kk : Int) < (a.length : Int) := by omega
   obtain rfl : kk = a.length := by omega
   go_wp2
   go_ret
   exact ⟨_, rfl, HBD.out, HV.out, HF.out⟩


-- HAND
/-! ### spec_l4Build_eq: function 96 -/
-- IMPORT Derived.StillTailTactics
set_option maxHeartbeats 16000000 in
set_option maxRecDepth 100000 in
/-- A comparison for equality that is put: its wire, and the circuit behind it. -/
theorem spec_l4Build_eq.calls (G base : Nat) (ins : Int) (ov : Value) (g : List S93) (A1 A2 : Option Addr) (c1 c2 : Nat) (a b : List Int) (w : World) (hb : base ≤ w.heap.size) (HBD : Bd 85 G base ins ov w g) (ha : (∀ W', Fr 93 G base w W' → Kd.C (Kd.int .i64) W' A1 a.length a)) (hb2 : (∀ W', Fr 93 G base w W' → Kd.C (Kd.int .i64) W' A2 b.length b)) (hi0 : 0 ≤ ins) (hi1 : ins ≤ 1000000) (hl : g.length ≤ 900000) (hal : a.length ≤ 10000) (hbl : b.length = a.length) :
 Calls Try.prog 96 #[.pointer (some ⟨G, 0, none⟩), .slice A1 a.length c1, .slice A2 b.length c2] w fun e w' => e = .returned (.int .i64 (eqN ins a b g a.length).2) ∧ Bd 85 G base ins ov w' (eqN ins a b g a.length).1 ∧ Fr 93 G base w w' := by
 have hGlt : G < w.heap.size := by obtain ⟨gv, hG, _⟩ := HBD; exact blk_lt hG
 have HBD0 := Aside0.mk HBD
 have Hha := Aside0.mk ha
 have Hhb2 := Aside0.mk hb2
 have HBL := Aside0.mk hbl
 clear HBD ha hb2 hbl
 have hu1 := Try.underlying25
 obtain ⟨g1, hg1⟩ : ∃ q, q = g ++ [(⟨1, 1, 0⟩ : S93)] := ⟨_, rfl⟩
 obtain ⟨d0, hd0⟩ : ∃ d, d = ins + (g.length : Int) := ⟨_, rfl⟩
 have hz : eqN ins a b g 0 = (g1, d0) := by rw [hg1, hd0]; rfl
 have G1 := Aside0.mk hg1
 have N0 := Aside0.mk hd0
 have HZ := Aside0.mk hz
 have L0 : g.length ≤ 1000000 := by omega
 have HF0 := Aside0.mk (Fr.refl 93 G base w)
 have tok1 : True := trivial
 clear hg1 hd0 hz
 go_enter Try.func96, Try.ntmps96
 go_wp2_with (go_at_call 92; have _t := tok1; refine (spec_l4Build_gate.calls G base ins ov g g1 1 1 0 d0 _ (Nat.le_trans hb HF0.out.size) HBD0.out hi0 hi1 L0 N0.out G1.out).mono ?_; rintro e w1 ⟨rfl, hbd, hf⟩; have B1 := Aside0.mk hbd; have F1 := Aside0.mk (HF0.out.trans hf); clear tok1 hbd hf)
 go_loopg [7, 15] a.length (fun gg so si wr => ∃ kk : Nat, kk ≤ a.length ∧ a.length - kk ≤ gg ∧ so = .int .i64 (eqN ins a b g kk).2 ∧ si = .int .i64 kk ∧ Aside0 (Bd 85 G base ins ov wr (eqN ins a b g kk).1) ∧ Aside0 (Fr 93 G base w wr))
 case atStart => exact ⟨0, Nat.zero_le _, by omega, by rw [HZ.out], rfl, by rw [HZ.out]; exact B1, F1⟩
 case round =>
 clear HBD0 HF0 B1 F1 G1 N0 HZ
 obtain ⟨kk, hkk, hg, rfl, rfl, HBD, HF⟩ := hrel
 have hlen := eqN_len ins a b g kk
 by_cases hlt : kk < a.length
 ·have hltz : (kk : Int) < (a.length : Int) := by omega
   have hs : eqN ins a b g (kk + 1) = ((eqN ins a b g kk).1 ++ [⟨5, rd a kk, rd b kk⟩] ++ [⟨2, (ins + ((eqN ins a b g kk).1.length : Int)), 0⟩] ++ [⟨3, (ins + ((eqN ins a b g kk).1.length : Int)) + 1, (eqN ins a b g kk).2⟩], (ins + ((eqN ins a b g kk).1.length : Int)) + 2) := rfl
   obtain ⟨gs, hgs⟩ : ∃ q, (eqN ins a b g kk).1 = q := ⟨_, rfl⟩
   obtain ⟨cs, hcs⟩ : ∃ q, (eqN ins a b g kk).2 = q := ⟨_, rfl⟩
   rw [hgs] at hlen
   rw [hgs, hcs] at hs
   rw [hgs] at HBD
   rw [hcs]
   clear hgs hcs
   have hgl : gs.length ≤ 970000 := by omega
   obtain ⟨d, hd⟩ : ∃ d, ins + (gs.length : Int) = d := ⟨_, rfl⟩
   rw [hd] at hs
   have hd0 : 0 ≤ d := by omega
   have hd1 : d ≤ 2000000 := by omega
   clear hlen
   obtain ⟨ad, e, hxa⟩ := Kd.at_int (Hha.out _ HF.out) (kk : Int) (by omega) hltz
   cases e
   rw [Int.toNat_natCast] at hxa
   have hltb : kk < b.length := by have := HBL.out; omega
   obtain ⟨ae, e, hya⟩ := Kd.at_int (Hhb2.out _ HF.out) (kk : Int) (by omega) (by omega)
   cases e
   rw [Int.toNat_natCast] at hya
   obtain ⟨x, hx⟩ : ∃ x, rd a kk = x := ⟨_, rfl⟩
   rw [hx] at hs hxa
   obtain ⟨y, hy⟩ : ∃ y, rd b kk = y := ⟨_, rfl⟩
   rw [hy] at hs hya
   have HX := Aside0.mk hx
   have HY := Aside0.mk hy
   clear hx hy L0
   obtain ⟨g1, hg1⟩ : ∃ q, q = gs ++ [(⟨5, x, y⟩ : S93)] := ⟨_, rfl⟩
   obtain ⟨g2, hg2⟩ : ∃ q, q = g1 ++ [(⟨2, d, 0⟩ : S93)] := ⟨_, rfl⟩
   obtain ⟨g3, hg3⟩ : ∃ q, q = g2 ++ [(⟨3, (d + 1), cs⟩ : S93)] := ⟨_, rfl⟩
   rw [← hg1, ← hg2, ← hg3] at hs
   have n1 : (g1.length : Int) = gs.length + 1 := by rw [hg1]; simp; try omega
   have n2 : (g2.length : Int) = gs.length + 2 := by rw [hg2]; simp; try omega
   have N0 := Aside0.mk (show d = ins + (gs.length : Int) by omega)
   have L0 : gs.length ≤ 1000000 := by omega
   have N1 := Aside0.mk (show (d + 1) = ins + (g1.length : Int) by omega)
   have L1 : g1.length ≤ 1000000 := by omega
   have N2 := Aside0.mk (show (d + 2) = ins + (g2.length : Int) by omega)
   have L2 : g2.length ≤ 1000000 := by omega
   have G1 := Aside0.mk hg1
   have tok1 : True := trivial
   have G2 := Aside0.mk hg2
   have tok2 : True := trivial
   have G3 := Aside0.mk hg3
   have tok3 : True := trivial
   have HS := Aside0.mk hs
   clear hs hd hg1 hg2 hg3 n1 n2
   clear hgl
   go_wp2
   go_still_tail 9, (by kernel_rfl)
   change wpList _ _ _ _ _ wr.drew
   have BD1 := Aside0.mk (HBD.out.drew)
   have FD1 := Aside0.mk (HF.out.drew)
   clear hxa hya
   generalize wr.drew = W1 at BD1 FD1 ⊢
   have hxa := Fr.cellAt FD1.out Hha.out hlt HX.out
   have hya := Fr.cellAt FD1.out Hhb2.out hltb HY.out
   go_wp2_with (first
     | (go_at_call 92; have _t := tok1; refine (spec_l4Build_gate.calls G base ins ov gs g1 5 x y d _ (Nat.le_trans hb FD1.out.size) BD1.out hi0 hi1 L0 N0.out G1.out).mono ?_; rintro e w1 ⟨rfl, hbd, hf⟩; have B1 := Aside0.mk hbd; have F1 := Aside0.mk (FD1.out.trans hf); clear tok1 hbd hf hxa hya; have hxa := Fr.cellAt F1.out Hha.out hlt HX.out; have hya := Fr.cellAt F1.out Hhb2.out hltb HY.out)
     | (go_at_call 92; have _t := tok2; refine (spec_l4Build_gate.calls G base ins ov g1 g2 2 d 0 (d + 1) _ (Nat.le_trans hb F1.out.size) B1.out hi0 hi1 L1 N1.out G2.out).mono ?_; rintro e w2 ⟨rfl, hbd, hf⟩; have B2 := Aside0.mk hbd; have F2 := Aside0.mk (F1.out.trans hf); clear tok2 hbd hf hxa hya; have hxa := Fr.cellAt F2.out Hha.out hlt HX.out; have hya := Fr.cellAt F2.out Hhb2.out hltb HY.out)
     | (go_at_call 92; have _t := tok3; refine (spec_l4Build_gate.calls G base ins ov g2 g3 3 (d + 1) cs (d + 2) _ (Nat.le_trans hb F2.out.size) B2.out hi0 hi1 L2 N2.out G3.out).mono ?_; rintro e w3 ⟨rfl, hbd, hf⟩; have B3 := Aside0.mk hbd; have F3 := Aside0.mk (F2.out.trans hf); clear tok3 hbd hf hxa hya; have hxa := Fr.cellAt F3.out Hha.out hlt HX.out; have hya := Fr.cellAt F3.out Hhb2.out hltb HY.out))
   go_roundg (a.length - (kk + 1))
   case measure => omega
   case rel => exact ⟨kk + 1, by omega, by omega, by rw [HS.out], by go_num, by rw [HS.out]; exact B3, F3⟩
 ·have hltz : ¬ (kk : Int) < (a.length : Int) := by omega
   obtain rfl : kk = a.length := by omega
   go_wp2
   go_ret
   exact ⟨rfl, HBD.out, HF.out⟩


-- HAND
/-! ### spec_l4Build_less: function 97 -/
-- IMPORT Derived.StillTailTactics
set_option maxHeartbeats 16000000 in
set_option maxRecDepth 100000 in
/-- A comparison that is put: its wire, and the circuit behind it. -/
theorem spec_l4Build_less.calls (G base : Nat) (ins : Int) (ov : Value) (g : List S93) (A1 A2 : Option Addr) (c1 c2 : Nat) (a b : List Int) (w : World) (hb : base ≤ w.heap.size) (HBD : Bd 85 G base ins ov w g) (ha : (∀ W', Fr 93 G base w W' → Kd.C (Kd.int .i64) W' A1 a.length a)) (hb2 : (∀ W', Fr 93 G base w W' → Kd.C (Kd.int .i64) W' A2 b.length b)) (hi0 : 0 ≤ ins) (hi1 : ins ≤ 1000000) (hl : g.length ≤ 900000) (hal : a.length ≤ 10000) (hbl : b.length = a.length) :
 Calls Try.prog 97 #[.pointer (some ⟨G, 0, none⟩), .slice A1 a.length c1, .slice A2 b.length c2] w fun e w' => e = .returned (.int .i64 (lessN ins a b g a.length).2) ∧ Bd 85 G base ins ov w' (lessN ins a b g a.length).1 ∧ Fr 93 G base w w' := by
 have hGlt : G < w.heap.size := by obtain ⟨gv, hG, _⟩ := HBD; exact blk_lt hG
 have HBD0 := Aside0.mk HBD
 have Hha := Aside0.mk ha
 have Hhb2 := Aside0.mk hb2
 have HBL := Aside0.mk hbl
 clear HBD ha hb2 hbl
 have hu1 := Try.underlying25
 obtain ⟨g1, hg1⟩ : ∃ q, q = g ++ [(⟨1, 0, 0⟩ : S93)] := ⟨_, rfl⟩
 obtain ⟨d0, hd0⟩ : ∃ d, d = ins + (g.length : Int) := ⟨_, rfl⟩
 have hz : lessN ins a b g 0 = (g1, d0) := by rw [hg1, hd0]; rfl
 have G1 := Aside0.mk hg1
 have N0 := Aside0.mk hd0
 have HZ := Aside0.mk hz
 have L0 : g.length ≤ 1000000 := by omega
 have HF0 := Aside0.mk (Fr.refl 93 G base w)
 have tok1 : True := trivial
 clear hg1 hd0 hz
 go_enter Try.func97, Try.ntmps97
 go_wp2_with (go_at_call 92; have _t := tok1; refine (spec_l4Build_gate.calls G base ins ov g g1 1 0 0 d0 _ (Nat.le_trans hb HF0.out.size) HBD0.out hi0 hi1 L0 N0.out G1.out).mono ?_; rintro e w1 ⟨rfl, hbd, hf⟩; have B1 := Aside0.mk hbd; have F1 := Aside0.mk (HF0.out.trans hf); clear tok1 hbd hf)
 go_loopg [7, 18] a.length (fun gg so si wr => ∃ kk : Nat, kk ≤ a.length ∧ a.length - kk ≤ gg ∧ so = .int .i64 (lessN ins a b g kk).2 ∧ si = .int .i64 kk ∧ Aside0 (Bd 85 G base ins ov wr (lessN ins a b g kk).1) ∧ Aside0 (Fr 93 G base w wr))
 case atStart => exact ⟨0, Nat.zero_le _, by omega, by rw [HZ.out], rfl, by rw [HZ.out]; exact B1, F1⟩
 case round =>
 clear HBD0 HF0 B1 F1 G1 N0 HZ
 obtain ⟨kk, hkk, hg, rfl, rfl, HBD, HF⟩ := hrel
 have hlen := lessN_len ins a b g kk
 by_cases hlt : kk < a.length
 ·have hltz : (kk : Int) < (a.length : Int) := by omega
   have hs : lessN ins a b g (kk + 1) = ((lessN ins a b g kk).1 ++ [⟨5, rd a kk, rd b kk⟩] ++ [⟨2, (ins + ((lessN ins a b g kk).1.length : Int)), 0⟩] ++ [⟨3, (ins + ((lessN ins a b g kk).1.length : Int)) + 1, (lessN ins a b g kk).2⟩] ++ [⟨2, rd a kk, 0⟩] ++ [⟨3, (ins + ((lessN ins a b g kk).1.length : Int)) + 3, rd b kk⟩] ++ [⟨4, (ins + ((lessN ins a b g kk).1.length : Int)) + 2, (ins + ((lessN ins a b g kk).1.length : Int)) + 4⟩], (ins + ((lessN ins a b g kk).1.length : Int)) + 5) := rfl
   obtain ⟨gs, hgs⟩ : ∃ q, (lessN ins a b g kk).1 = q := ⟨_, rfl⟩
   obtain ⟨cs, hcs⟩ : ∃ q, (lessN ins a b g kk).2 = q := ⟨_, rfl⟩
   rw [hgs] at hlen
   rw [hgs, hcs] at hs
   rw [hgs] at HBD
   rw [hcs]
   clear hgs hcs
   have hgl : gs.length ≤ 970000 := by omega
   obtain ⟨d, hd⟩ : ∃ d, ins + (gs.length : Int) = d := ⟨_, rfl⟩
   rw [hd] at hs
   have hd0 : 0 ≤ d := by omega
   have hd1 : d ≤ 2000000 := by omega
   clear hlen
   obtain ⟨ad, e, hxa⟩ := Kd.at_int (Hha.out _ HF.out) (kk : Int) (by omega) hltz
   cases e
   rw [Int.toNat_natCast] at hxa
   have hltb : kk < b.length := by have := HBL.out; omega
   obtain ⟨ae, e, hya⟩ := Kd.at_int (Hhb2.out _ HF.out) (kk : Int) (by omega) (by omega)
   cases e
   rw [Int.toNat_natCast] at hya
   obtain ⟨x, hx⟩ : ∃ x, rd a kk = x := ⟨_, rfl⟩
   rw [hx] at hs hxa
   obtain ⟨y, hy⟩ : ∃ y, rd b kk = y := ⟨_, rfl⟩
   rw [hy] at hs hya
   have HX := Aside0.mk hx
   have HY := Aside0.mk hy
   clear hx hy L0
   obtain ⟨g1, hg1⟩ : ∃ q, q = gs ++ [(⟨5, x, y⟩ : S93)] := ⟨_, rfl⟩
   obtain ⟨g2, hg2⟩ : ∃ q, q = g1 ++ [(⟨2, d, 0⟩ : S93)] := ⟨_, rfl⟩
   obtain ⟨g3, hg3⟩ : ∃ q, q = g2 ++ [(⟨3, (d + 1), cs⟩ : S93)] := ⟨_, rfl⟩
   obtain ⟨g4, hg4⟩ : ∃ q, q = g3 ++ [(⟨2, x, 0⟩ : S93)] := ⟨_, rfl⟩
   obtain ⟨g5, hg5⟩ : ∃ q, q = g4 ++ [(⟨3, (d + 3), y⟩ : S93)] := ⟨_, rfl⟩
   obtain ⟨g6, hg6⟩ : ∃ q, q = g5 ++ [(⟨4, (d + 2), (d + 4)⟩ : S93)] := ⟨_, rfl⟩
   rw [← hg1, ← hg2, ← hg3, ← hg4, ← hg5, ← hg6] at hs
   have n1 : (g1.length : Int) = gs.length + 1 := by rw [hg1]; simp; try omega
   have n2 : (g2.length : Int) = gs.length + 2 := by rw [hg2]; simp; try omega
   have n3 : (g3.length : Int) = gs.length + 3 := by rw [hg3]; simp; try omega
   have n4 : (g4.length : Int) = gs.length + 4 := by rw [hg4]; simp; try omega
   have n5 : (g5.length : Int) = gs.length + 5 := by rw [hg5]; simp; try omega
   have N0 := Aside0.mk (show d = ins + (gs.length : Int) by omega)
   have L0 : gs.length ≤ 1000000 := by omega
   have N1 := Aside0.mk (show (d + 1) = ins + (g1.length : Int) by omega)
   have L1 : g1.length ≤ 1000000 := by omega
   have N2 := Aside0.mk (show (d + 2) = ins + (g2.length : Int) by omega)
   have L2 : g2.length ≤ 1000000 := by omega
   have N3 := Aside0.mk (show (d + 3) = ins + (g3.length : Int) by omega)
   have L3 : g3.length ≤ 1000000 := by omega
   have N4 := Aside0.mk (show (d + 4) = ins + (g4.length : Int) by omega)
   have L4 : g4.length ≤ 1000000 := by omega
   have N5 := Aside0.mk (show (d + 5) = ins + (g5.length : Int) by omega)
   have L5 : g5.length ≤ 1000000 := by omega
   have G1 := Aside0.mk hg1
   have tok1 : True := trivial
   have G2 := Aside0.mk hg2
   have tok2 : True := trivial
   have G3 := Aside0.mk hg3
   have tok3 : True := trivial
   have G4 := Aside0.mk hg4
   have tok4 : True := trivial
   have G5 := Aside0.mk hg5
   have tok5 : True := trivial
   have G6 := Aside0.mk hg6
   have tok6 : True := trivial
   have HS := Aside0.mk hs
   clear hs hd hg1 hg2 hg3 hg4 hg5 hg6 n1 n2 n3 n4 n5
   clear hgl
   go_wp2
   go_still_tail 9, (by kernel_rfl)
   change wpList _ _ _ _ _ wr.drew
   have BD1 := Aside0.mk (HBD.out.drew)
   have FD1 := Aside0.mk (HF.out.drew)
   clear hxa hya
   generalize wr.drew = W1 at BD1 FD1 ⊢
   have hxa := Fr.cellAt FD1.out Hha.out hlt HX.out
   have hya := Fr.cellAt FD1.out Hhb2.out hltb HY.out
   go_wp2_with (first
     | (go_at_call 92; have _t := tok1; refine (spec_l4Build_gate.calls G base ins ov gs g1 5 x y d _ (Nat.le_trans hb FD1.out.size) BD1.out hi0 hi1 L0 N0.out G1.out).mono ?_; rintro e w1 ⟨rfl, hbd, hf⟩; have B1 := Aside0.mk hbd; have F1 := Aside0.mk (FD1.out.trans hf); clear tok1 hbd hf hxa hya; have hxa := Fr.cellAt F1.out Hha.out hlt HX.out; have hya := Fr.cellAt F1.out Hhb2.out hltb HY.out)
     | (go_at_call 92; have _t := tok2; refine (spec_l4Build_gate.calls G base ins ov g1 g2 2 d 0 (d + 1) _ (Nat.le_trans hb F1.out.size) B1.out hi0 hi1 L1 N1.out G2.out).mono ?_; rintro e w2 ⟨rfl, hbd, hf⟩; have B2 := Aside0.mk hbd; have F2 := Aside0.mk (F1.out.trans hf); clear tok2 hbd hf hxa hya; have hxa := Fr.cellAt F2.out Hha.out hlt HX.out; have hya := Fr.cellAt F2.out Hhb2.out hltb HY.out)
     | (go_at_call 92; have _t := tok3; refine (spec_l4Build_gate.calls G base ins ov g2 g3 3 (d + 1) cs (d + 2) _ (Nat.le_trans hb F2.out.size) B2.out hi0 hi1 L2 N2.out G3.out).mono ?_; rintro e w3 ⟨rfl, hbd, hf⟩; have B3 := Aside0.mk hbd; have F3 := Aside0.mk (F2.out.trans hf); clear tok3 hbd hf hxa hya; have hxa := Fr.cellAt F3.out Hha.out hlt HX.out; have hya := Fr.cellAt F3.out Hhb2.out hltb HY.out)
     | (go_at_call 92; have _t := tok4; refine (spec_l4Build_gate.calls G base ins ov g3 g4 2 x 0 (d + 3) _ (Nat.le_trans hb F3.out.size) B3.out hi0 hi1 L3 N3.out G4.out).mono ?_; rintro e w4 ⟨rfl, hbd, hf⟩; have B4 := Aside0.mk hbd; have F4 := Aside0.mk (F3.out.trans hf); clear tok4 hbd hf hxa hya; have hxa := Fr.cellAt F4.out Hha.out hlt HX.out; have hya := Fr.cellAt F4.out Hhb2.out hltb HY.out)
     | (go_at_call 92; have _t := tok5; refine (spec_l4Build_gate.calls G base ins ov g4 g5 3 (d + 3) y (d + 4) _ (Nat.le_trans hb F4.out.size) B4.out hi0 hi1 L4 N4.out G5.out).mono ?_; rintro e w5 ⟨rfl, hbd, hf⟩; have B5 := Aside0.mk hbd; have F5 := Aside0.mk (F4.out.trans hf); clear tok5 hbd hf hxa hya; have hxa := Fr.cellAt F5.out Hha.out hlt HX.out; have hya := Fr.cellAt F5.out Hhb2.out hltb HY.out)
     | (go_at_call 92; have _t := tok6; refine (spec_l4Build_gate.calls G base ins ov g5 g6 4 (d + 2) (d + 4) (d + 5) _ (Nat.le_trans hb F5.out.size) B5.out hi0 hi1 L5 N5.out G6.out).mono ?_; rintro e w6 ⟨rfl, hbd, hf⟩; have B6 := Aside0.mk hbd; have F6 := Aside0.mk (F5.out.trans hf); clear tok6 hbd hf hxa hya; have hxa := Fr.cellAt F6.out Hha.out hlt HX.out; have hya := Fr.cellAt F6.out Hhb2.out hltb HY.out))
   go_roundg (a.length - (kk + 1))
   case measure => omega
   case rel => exact ⟨kk + 1, by omega, by omega, by rw [HS.out], by go_num, by rw [HS.out]; exact B6, F6⟩
 ·have hltz : ¬ (kk : Int) < (a.length : Int) := by omega
   obtain rfl : kk = a.length := by omega
   go_wp2
   go_ret
   exact ⟨rfl, HBD.out, HF.out⟩


/-! ### spec_l1Own: function 98 -/
def spec_l1Own.f (l0 : List Int) : Option (List Int) := (some (([] : List Int) : List Int)).bind fun y131 => (if y131.length + l0.length < 17592186044416 then (some (y131 ++ l0)) else (none))
set_option maxHeartbeats 8000000 in
set_option maxRecDepth 100000 in
theorem spec_l1Own.calls (A0 : Option Addr) (c0 : Nat) (l0 : List Int) (r : List Int) (w : World) (hr0 : Kd.C (Kd.int .i64) w A0 l0.length l0) (hc0 : l0.length ≤ c0) (h : spec_l1Own.f l0 = some r) :
 Calls Try.prog 98 #[.slice A0 l0.length c0] w fun e w' => ∃ v0_ : Value, e = .returned (v0_) ∧ Kd.R (Kd.int .i64) 3 w' w.heap.size (fun _ => True) v0_ r ∧ Below w.heap.size w w' := by
 have HR0 := Aside0.mk hr0
 have HC0 := Aside0.mk hc0
 clear hr0 hc0
 have HB := Aside0.mk (Below.refl w.heap.size w)
 have H : ((some (([] : List Int) : List Int)).bind fun y131 => (if y131.length + l0.length < 17592186044416 then (some (y131 ++ l0)) else (none))) = some r := h
 clear h
 obtain ⟨y131, hy131⟩ : ∃ y_ : List Int, y_ = (([] : List Int)) := ⟨_, rfl⟩
 replace H : (if y131.length + l0.length < 17592186044416 then (some (y131 ++ l0)) else (none)) = some r := qY hy131 H
 have Ny131 := Aside0.mk hy131
 clear hy131
 by_cases c2 : y131.length + l0.length < 17592186044416
 ·rw [if_pos c2] at H
 have LMc2 := Aside0.mk c2
 clear c2
 obtain ⟨y134, hy134⟩ : ∃ y_ : List Int, y_ = (y131 ++ l0) := ⟨_, rfl⟩
 replace H : (some y134) = some r := qY hy134 H
 have Ny134 := Aside0.mk hy134
 clear hy134
 obtain rfl := Option.some.inj H
 go_enter Try.func98, Try.ntmps98
 go_wp2_with (first | ((with_reducible refine gate_dst (N := 3) rfl ?_); refine Kd.R_lit (Kd.int .i64) _ 3 ?hg (N := 3) ?hd (xs := ([] : List Int)) (inner := []) (ok := fun _ => True) (okp := fun _ => True) ?hr ?hp (fun _ hk => hk) trivial (Below.refl _ _) (Nat.le_refl _) (by simp) ?_; (case hd => rfl); (case hg => rfl); (case hr => first | (go_simp; done) | (go_simp; rfl)); (case hp => exact (Reps.none _ _)); intro v132 w3 ho4 hb hg_ hnew_; clear hg_ hnew_; (first | rw [← Ny131.out] at ho4 | (simp only [Int.reduceToNat] at ho4; rw [← Ny131.out] at ho4)); have n0_ := Aside0.mk (Kd.R_lower ho4 (below_size (qB))); have n1_ := Aside0.mk (below_step (qB) hb); clear HB; have HO133 := n0_; have HB := n1_; clear n0_ n1_; clear hb ho4) | ((with_reducible refine gate_builtin (b := .append) (xs := #[.tmp 3, .tmp 4]) rfl ?_); at_builtin; refine Kd.R_append_rows (Kd.int .i64) (w0 := w) w.heap.size rfl (.tmp 3) (.tmp 4) 25 3 (.int .i64 0) 8 rfl Try.underlying25 info3 rfl (by decide) (by omega) v132 y131 l0 _ _ _ (fun _ => True) (fun _ => False) rfl rfl ?aO ?aR (fun _ _ h => h) (fun _ h => h.elim) ?aF ?aB ?aS ?aL ?_; (case aR => exact qC (Kd.C_below HR0.out HB.out)); (case aB => exact (qB)); (case aF => exact (fun _ _ => trivial)); (case aO => exact (qR HO133.out)); (case aS => exact (below_size (qB))); (case aL => have := LMc2.out; omega); intro v135 w5 ho hb hg hat; rw [← Ny134.out] at ho; have n0_ := Aside0.mk (hb); have n1_ := Aside0.mk (ho); clear HB; clear HO133; have HB := n0_; have HO136 := n1_; clear n0_ n1_; clear ho hb hg hat))
 go_ret
 exact ⟨_, qE, qR HO136.out, qB⟩
 ·rw [if_neg c2] at H
 exact absurd H (by simp)

end Go.Proofs.Ytckgeanmljmhfaa.X
