/- Go functions as Lean functions, each with the proof that its call comes to just its answer. Conditions: the arguments are of their kinds. -/
import Derived.Test.YtckgeanmljmhfaaX0
import Derived.Test.YtckgeanmljmhfaaX5
import Derived.StillTailTactics
import Derived.Test.YtckgeanmljmhfaaX1
namespace Go.Proofs.Ytckgeanmljmhfaa.X
open Go.RowKit Go.Proofs.YtckgeanmljmhfaaW.PrintWords Go.Proofs.YtckgeanmljmhfaaW.PrintLast Go.Proofs.YtckgeanmljmhfaaW.PrintMore
attribute [local go_sem] max2_int min2_int max_two min_two max_three min_three max_four min_four   -- for this text's walks alone
set_option linter.unusedVariables false
set_option linter.unusedSimpArgs false

-- HAND
/-! ### spec_l4Build_two: function 64 -/
-- IMPORT Derived.StillTailTactics
set_option maxHeartbeats 16000000 in
set_option maxRecDepth 100000 in
/-- The gates of the operator 8. -/
theorem spec_l4Build_two_8.calls (G base : Nat) (ins : Int) (ov : Value) (g : List S93) (A1 A2 : Option Addr) (c1 c2 : Nat) (a b : List Int) (w : World) (hb : base ≤ w.heap.size) (HBD : Bd 85 G base ins ov w g) (ha : (∀ W', Fr 93 G base w W' → Kd.C (Kd.int .i64) W' A1 a.length a)) (hb2 : (∀ W', Fr 93 G base w W' → Kd.C (Kd.int .i64) W' A2 b.length b)) (hi0 : 0 ≤ ins) (hi1 : ins ≤ 1000000) (hl : g.length ≤ 900000) (hlm : g.length ≤ 800000) (hal : a.length ≤ 50) (hal1 : 1 ≤ a.length) (hc1 : a.length ≤ c1) (hc2 : b.length ≤ c2) (hbl : b.length = a.length) :
  Calls Try.prog 64 #[.pointer (some ⟨G, 0, none⟩), .int .i64 8, .slice A1 a.length c1, .slice A2 b.length c2] w fun e w' => ∃ v : Value, e = .returned v ∧ Bd 85 G base ins ov w' (twoN ins 8 a b g).1 ∧ Kd.R (Kd.int .i64) 3 w' w.heap.size (fun k => k ≠ G) v (twoN ins 8 a b g).2 ∧ Fr 93 G base w w' := by
 have hGlt : G < w.heap.size := by obtain ⟨gv, hG, _⟩ := HBD; exact blk_lt hG
 have HBD0 := Aside0.mk HBD
 have Hha := Aside0.mk ha
 have Hhb2 := Aside0.mk hb2
 have HBL := Aside0.mk hbl
 clear HBD ha hb2 hbl
 have hu1 := Try.underlying25
 have HT := Aside0.mk (show twoN ins 8 a b g = emitN ins (fun i => ⟨3, rd a i, rd b i⟩) g a.length from by unfold twoN; simp)
 have tok1 : True := trivial
 go_enter Try.func64, Try.ntmps64
 go_wp2_with (go_at_call 95; have _t := tok1; refine (spec_l4Build_each.calls G base ins ov g 3 A1 A2 c1 c2 a b w hb HBD0.out Hha.out Hhb2.out hi0 hi1 hl (by omega) HBL.out).mono ?_; rintro e w1 ⟨v1, rfl, hbd, hv, hf⟩; have B1 := Aside0.mk hbd; have V1 := Aside0.mk hv; have F1 := Aside0.mk hf; clear tok1 hbd hv hf)
 go_ret
 rw [HT.out]
 exact ⟨_, rfl, B1.out, V1.out, F1.out⟩

set_option maxHeartbeats 16000000 in
set_option maxRecDepth 100000 in
/-- The gates of the operator 17. -/
theorem spec_l4Build_two_17.calls (G base : Nat) (ins : Int) (ov : Value) (g : List S93) (A1 A2 : Option Addr) (c1 c2 : Nat) (a b : List Int) (w : World) (hb : base ≤ w.heap.size) (HBD : Bd 85 G base ins ov w g) (ha : (∀ W', Fr 93 G base w W' → Kd.C (Kd.int .i64) W' A1 a.length a)) (hb2 : (∀ W', Fr 93 G base w W' → Kd.C (Kd.int .i64) W' A2 b.length b)) (hi0 : 0 ≤ ins) (hi1 : ins ≤ 1000000) (hl : g.length ≤ 900000) (hlm : g.length ≤ 800000) (hal : a.length ≤ 50) (hal1 : 1 ≤ a.length) (hc1 : a.length ≤ c1) (hc2 : b.length ≤ c2) (hbl : b.length = a.length) :
  Calls Try.prog 64 #[.pointer (some ⟨G, 0, none⟩), .int .i64 17, .slice A1 a.length c1, .slice A2 b.length c2] w fun e w' => ∃ v : Value, e = .returned v ∧ Bd 85 G base ins ov w' (twoN ins 17 a b g).1 ∧ Kd.R (Kd.int .i64) 3 w' w.heap.size (fun k => k ≠ G) v (twoN ins 17 a b g).2 ∧ Fr 93 G base w w' := by
 have hGlt : G < w.heap.size := by obtain ⟨gv, hG, _⟩ := HBD; exact blk_lt hG
 have HBD0 := Aside0.mk HBD
 have Hha := Aside0.mk ha
 have Hhb2 := Aside0.mk hb2
 have HBL := Aside0.mk hbl
 clear HBD ha hb2 hbl
 have hu1 := Try.underlying25
 have HT := Aside0.mk (show twoN ins 17 a b g = emitN ins (fun i => ⟨3, rd a i, rd b i⟩) g a.length from by unfold twoN; simp)
 have tok1 : True := trivial
 go_enter Try.func64, Try.ntmps64
 go_wp2_with (go_at_call 95; have _t := tok1; refine (spec_l4Build_each.calls G base ins ov g 3 A1 A2 c1 c2 a b w hb HBD0.out Hha.out Hhb2.out hi0 hi1 hl (by omega) HBL.out).mono ?_; rintro e w1 ⟨v1, rfl, hbd, hv, hf⟩; have B1 := Aside0.mk hbd; have V1 := Aside0.mk hv; have F1 := Aside0.mk hf; clear tok1 hbd hv hf)
 go_ret
 rw [HT.out]
 exact ⟨_, rfl, B1.out, V1.out, F1.out⟩

set_option maxHeartbeats 16000000 in
set_option maxRecDepth 100000 in
/-- The gates of the operator 9. -/
theorem spec_l4Build_two_9.calls (G base : Nat) (ins : Int) (ov : Value) (g : List S93) (A1 A2 : Option Addr) (c1 c2 : Nat) (a b : List Int) (w : World) (hb : base ≤ w.heap.size) (HBD : Bd 85 G base ins ov w g) (ha : (∀ W', Fr 93 G base w W' → Kd.C (Kd.int .i64) W' A1 a.length a)) (hb2 : (∀ W', Fr 93 G base w W' → Kd.C (Kd.int .i64) W' A2 b.length b)) (hi0 : 0 ≤ ins) (hi1 : ins ≤ 1000000) (hl : g.length ≤ 900000) (hlm : g.length ≤ 800000) (hal : a.length ≤ 50) (hal1 : 1 ≤ a.length) (hc1 : a.length ≤ c1) (hc2 : b.length ≤ c2) (hbl : b.length = a.length) :
  Calls Try.prog 64 #[.pointer (some ⟨G, 0, none⟩), .int .i64 9, .slice A1 a.length c1, .slice A2 b.length c2] w fun e w' => ∃ v : Value, e = .returned v ∧ Bd 85 G base ins ov w' (twoN ins 9 a b g).1 ∧ Kd.R (Kd.int .i64) 3 w' w.heap.size (fun k => k ≠ G) v (twoN ins 9 a b g).2 ∧ Fr 93 G base w w' := by
 have hGlt : G < w.heap.size := by obtain ⟨gv, hG, _⟩ := HBD; exact blk_lt hG
 have HBD0 := Aside0.mk HBD
 have Hha := Aside0.mk ha
 have Hhb2 := Aside0.mk hb2
 have HBL := Aside0.mk hbl
 clear HBD ha hb2 hbl
 have hu1 := Try.underlying25
 have HT := Aside0.mk (show twoN ins 9 a b g = emitN ins (fun i => ⟨4, rd a i, rd b i⟩) g a.length from by unfold twoN; simp)
 have tok1 : True := trivial
 go_enter Try.func64, Try.ntmps64
 go_wp2_with (go_at_call 95; have _t := tok1; refine (spec_l4Build_each.calls G base ins ov g 4 A1 A2 c1 c2 a b w hb HBD0.out Hha.out Hhb2.out hi0 hi1 hl (by omega) HBL.out).mono ?_; rintro e w1 ⟨v1, rfl, hbd, hv, hf⟩; have B1 := Aside0.mk hbd; have V1 := Aside0.mk hv; have F1 := Aside0.mk hf; clear tok1 hbd hv hf)
 go_ret
 rw [HT.out]
 exact ⟨_, rfl, B1.out, V1.out, F1.out⟩

set_option maxHeartbeats 16000000 in
set_option maxRecDepth 100000 in
/-- The gates of the operator 18. -/
theorem spec_l4Build_two_18.calls (G base : Nat) (ins : Int) (ov : Value) (g : List S93) (A1 A2 : Option Addr) (c1 c2 : Nat) (a b : List Int) (w : World) (hb : base ≤ w.heap.size) (HBD : Bd 85 G base ins ov w g) (ha : (∀ W', Fr 93 G base w W' → Kd.C (Kd.int .i64) W' A1 a.length a)) (hb2 : (∀ W', Fr 93 G base w W' → Kd.C (Kd.int .i64) W' A2 b.length b)) (hi0 : 0 ≤ ins) (hi1 : ins ≤ 1000000) (hl : g.length ≤ 900000) (hlm : g.length ≤ 800000) (hal : a.length ≤ 50) (hal1 : 1 ≤ a.length) (hc1 : a.length ≤ c1) (hc2 : b.length ≤ c2) (hbl : b.length = a.length) :
  Calls Try.prog 64 #[.pointer (some ⟨G, 0, none⟩), .int .i64 18, .slice A1 a.length c1, .slice A2 b.length c2] w fun e w' => ∃ v : Value, e = .returned v ∧ Bd 85 G base ins ov w' (twoN ins 18 a b g).1 ∧ Kd.R (Kd.int .i64) 3 w' w.heap.size (fun k => k ≠ G) v (twoN ins 18 a b g).2 ∧ Fr 93 G base w w' := by
 have hGlt : G < w.heap.size := by obtain ⟨gv, hG, _⟩ := HBD; exact blk_lt hG
 have HBD0 := Aside0.mk HBD
 have Hha := Aside0.mk ha
 have Hhb2 := Aside0.mk hb2
 have HBL := Aside0.mk hbl
 clear HBD ha hb2 hbl
 have hu1 := Try.underlying25
 have HT := Aside0.mk (show twoN ins 18 a b g = emitN ins (fun i => ⟨4, rd a i, rd b i⟩) g a.length from by unfold twoN; simp)
 have tok1 : True := trivial
 go_enter Try.func64, Try.ntmps64
 go_wp2_with (go_at_call 95; have _t := tok1; refine (spec_l4Build_each.calls G base ins ov g 4 A1 A2 c1 c2 a b w hb HBD0.out Hha.out Hhb2.out hi0 hi1 hl (by omega) HBL.out).mono ?_; rintro e w1 ⟨v1, rfl, hbd, hv, hf⟩; have B1 := Aside0.mk hbd; have V1 := Aside0.mk hv; have F1 := Aside0.mk hf; clear tok1 hbd hv hf)
 go_ret
 rw [HT.out]
 exact ⟨_, rfl, B1.out, V1.out, F1.out⟩

set_option maxHeartbeats 16000000 in
set_option maxRecDepth 100000 in
/-- The gates of the operator 10. -/
theorem spec_l4Build_two_10.calls (G base : Nat) (ins : Int) (ov : Value) (g : List S93) (A1 A2 : Option Addr) (c1 c2 : Nat) (a b : List Int) (w : World) (hb : base ≤ w.heap.size) (HBD : Bd 85 G base ins ov w g) (ha : (∀ W', Fr 93 G base w W' → Kd.C (Kd.int .i64) W' A1 a.length a)) (hb2 : (∀ W', Fr 93 G base w W' → Kd.C (Kd.int .i64) W' A2 b.length b)) (hi0 : 0 ≤ ins) (hi1 : ins ≤ 1000000) (hl : g.length ≤ 900000) (hlm : g.length ≤ 800000) (hal : a.length ≤ 50) (hal1 : 1 ≤ a.length) (hc1 : a.length ≤ c1) (hc2 : b.length ≤ c2) (hbl : b.length = a.length) :
  Calls Try.prog 64 #[.pointer (some ⟨G, 0, none⟩), .int .i64 10, .slice A1 a.length c1, .slice A2 b.length c2] w fun e w' => ∃ v : Value, e = .returned v ∧ Bd 85 G base ins ov w' (twoN ins 10 a b g).1 ∧ Kd.R (Kd.int .i64) 3 w' w.heap.size (fun k => k ≠ G) v (twoN ins 10 a b g).2 ∧ Fr 93 G base w w' := by
 have hGlt : G < w.heap.size := by obtain ⟨gv, hG, _⟩ := HBD; exact blk_lt hG
 have HBD0 := Aside0.mk HBD
 have Hha := Aside0.mk ha
 have Hhb2 := Aside0.mk hb2
 have HBL := Aside0.mk hbl
 clear HBD ha hb2 hbl
 have hu1 := Try.underlying25
 have HT := Aside0.mk (show twoN ins 10 a b g = emitN ins (fun i => ⟨5, rd a i, rd b i⟩) g a.length from by unfold twoN; simp)
 have tok1 : True := trivial
 go_enter Try.func64, Try.ntmps64
 go_wp2_with (go_at_call 95; have _t := tok1; refine (spec_l4Build_each.calls G base ins ov g 5 A1 A2 c1 c2 a b w hb HBD0.out Hha.out Hhb2.out hi0 hi1 hl (by omega) HBL.out).mono ?_; rintro e w1 ⟨v1, rfl, hbd, hv, hf⟩; have B1 := Aside0.mk hbd; have V1 := Aside0.mk hv; have F1 := Aside0.mk hf; clear tok1 hbd hv hf)
 go_ret
 rw [HT.out]
 exact ⟨_, rfl, B1.out, V1.out, F1.out⟩

set_option maxHeartbeats 16000000 in
set_option maxRecDepth 100000 in
/-- The gates of the operator 3. -/
theorem spec_l4Build_two_3.calls (G base : Nat) (ins : Int) (ov : Value) (g : List S93) (A1 A2 : Option Addr) (c1 c2 : Nat) (a b : List Int) (w : World) (hb : base ≤ w.heap.size) (HBD : Bd 85 G base ins ov w g) (ha : (∀ W', Fr 93 G base w W' → Kd.C (Kd.int .i64) W' A1 a.length a)) (hb2 : (∀ W', Fr 93 G base w W' → Kd.C (Kd.int .i64) W' A2 b.length b)) (hi0 : 0 ≤ ins) (hi1 : ins ≤ 1000000) (hl : g.length ≤ 900000) (hlm : g.length ≤ 800000) (hal : a.length ≤ 50) (hal1 : 1 ≤ a.length) (hc1 : a.length ≤ c1) (hc2 : b.length ≤ c2) (hbl : b.length = a.length) :
  Calls Try.prog 64 #[.pointer (some ⟨G, 0, none⟩), .int .i64 3, .slice A1 a.length c1, .slice A2 b.length c2] w fun e w' => ∃ v : Value, e = .returned v ∧ Bd 85 G base ins ov w' (twoN ins 3 a b g).1 ∧ Kd.R (Kd.int .i64) 3 w' w.heap.size (fun k => k ≠ G) v (twoN ins 3 a b g).2 ∧ Fr 93 G base w w' := by
 have hGlt : G < w.heap.size := by obtain ⟨gv, hG, _⟩ := HBD; exact blk_lt hG
 have HBD0 := Aside0.mk HBD
 have Hha := Aside0.mk ha
 have Hhb2 := Aside0.mk hb2
 have HBL := Aside0.mk hbl
 clear HBD ha hb2 hbl
 have hu1 := Try.underlying25
 obtain ⟨g1, hg1⟩ : ∃ q, q = g ++ [(⟨1, 0, 0⟩ : S93)] := ⟨_, rfl⟩
 obtain ⟨d, hd⟩ : ∃ q, q = ins + (g.length : Int) := ⟨_, rfl⟩
 have ht : twoN ins 3 a b g = ((addN ins a b d g1 a.length).1, (addN ins a b d g1 a.length).2.1) := by rw [hd, hg1]; unfold twoN; simp
 have HT := Aside0.mk ht
 have G1 := Aside0.mk hg1
 have N0 := Aside0.mk hd
 have L1 : g1.length ≤ 900000 := by rw [hg1, List.length_append, List.length_singleton]; omega
 have F0 := Aside0.mk (Fr.refl 93 G base w)
 have tok1 : True := trivial
 have tok2 : True := trivial
 clear ht hg1 hd
 go_enter Try.func64, Try.ntmps64
 go_wp2_with (first | (go_at_call 92; have _t := tok1; refine (spec_l4Build_gate.calls G base ins ov g g1 1 0 0 d _ (Nat.le_trans hb F0.out.size) HBD0.out hi0 hi1 (by omega) N0.out G1.out).mono ?_; rintro e w1 ⟨rfl, hbd, hf⟩; have B1 := Aside0.mk hbd; have F1 := Aside0.mk (F0.out.trans hf); clear tok1 hbd hf) | (go_at_call 93; have _t := tok2; refine (spec_l4Build_add.calls G base ins ov g1 A1 A2 c1 c2 a b d w1 (Nat.le_trans hb F1.out.size) B1.out (Fr.C_step Hha.out F1.out) (Fr.C_step Hhb2.out F1.out) hi0 hi1 L1 (by omega) HBL.out).mono ?_; rintro e w2 ⟨v2, rfl, hbd, hv, hf⟩; have B2 := Aside0.mk hbd; have V2 := Aside0.mk (Kd.R_lower hv F1.out.size); have F2 := Aside0.mk (F1.out.trans hf); clear tok2 hbd hv hf))
 go_ret
 rw [HT.out]
 exact ⟨_, rfl, B2.out, V2.out, F2.out⟩

set_option maxHeartbeats 16000000 in
set_option maxRecDepth 100000 in
/-- The gates of the operator 4. -/
theorem spec_l4Build_two_4.calls (G base : Nat) (ins : Int) (ov : Value) (g : List S93) (A1 A2 : Option Addr) (c1 c2 : Nat) (a b : List Int) (w : World) (hb : base ≤ w.heap.size) (HBD : Bd 85 G base ins ov w g) (ha : (∀ W', Fr 93 G base w W' → Kd.C (Kd.int .i64) W' A1 a.length a)) (hb2 : (∀ W', Fr 93 G base w W' → Kd.C (Kd.int .i64) W' A2 b.length b)) (hi0 : 0 ≤ ins) (hi1 : ins ≤ 1000000) (hl : g.length ≤ 900000) (hlm : g.length ≤ 800000) (hal : a.length ≤ 50) (hal1 : 1 ≤ a.length) (hc1 : a.length ≤ c1) (hc2 : b.length ≤ c2) (hbl : b.length = a.length) :
  Calls Try.prog 64 #[.pointer (some ⟨G, 0, none⟩), .int .i64 4, .slice A1 a.length c1, .slice A2 b.length c2] w fun e w' => ∃ v : Value, e = .returned v ∧ Bd 85 G base ins ov w' (twoN ins 4 a b g).1 ∧ Kd.R (Kd.int .i64) 3 w' w.heap.size (fun k => k ≠ G) v (twoN ins 4 a b g).2 ∧ Fr 93 G base w w' := by
 have hGlt : G < w.heap.size := by obtain ⟨gv, hG, _⟩ := HBD; exact blk_lt hG
 have HBD0 := Aside0.mk HBD
 have Hha := Aside0.mk ha
 have Hhb2 := Aside0.mk hb2
 have HBL := Aside0.mk hbl
 clear HBD ha hb2 hbl
 have hu1 := Try.underlying25
 obtain ⟨gn, hgn⟩ : ∃ q, (emitN ins (fun i => ⟨2, rd b i, 0⟩) g b.length).1 = q := ⟨_, rfl⟩
 obtain ⟨nn, hnn⟩ : ∃ q, (emitN ins (fun i => ⟨2, rd b i, 0⟩) g b.length).2 = q := ⟨_, rfl⟩
 have hlen := emitN_len ins (fun i => ⟨2, rd b i, 0⟩) g b.length
 rw [hgn, hnn] at hlen
 obtain ⟨hl1, hl2⟩ := hlen
 have hbn := HBL.out
 have Lg : gn.length ≤ 810000 := by omega
 have NL := Aside0.mk (show nn.length = a.length by omega)
 clear hl1 hl2 hbn
 obtain ⟨g1, hg1⟩ : ∃ q, q = gn ++ [(⟨1, 1, 0⟩ : S93)] := ⟨_, rfl⟩
 obtain ⟨d, hd⟩ : ∃ q, q = ins + (gn.length : Int) := ⟨_, rfl⟩
 have ht : twoN ins 4 a b g = ((addN ins a nn d g1 a.length).1, (addN ins a nn d g1 a.length).2.1) := by rw [hd, hg1, ← hgn, ← hnn]; unfold twoN; simp
 have HT := Aside0.mk ht
 have G1 := Aside0.mk hg1
 have N0 := Aside0.mk hd
 have HGN := Aside0.mk hgn
 have HNN := Aside0.mk hnn
 have L1 : g1.length ≤ 900000 := by rw [hg1, List.length_append, List.length_singleton]; omega
 have tok0 : True := trivial
 have tok1 : True := trivial
 have tok2 : True := trivial
 clear ht hg1 hd hgn hnn
 go_enter Try.func64, Try.ntmps64
 go_wp2_with (first | (go_at_call 63; have _t := tok0; refine (spec_l4Build_nots.calls G base ins ov g A2 c2 b w hb HBD0.out Hhb2.out hi0 hi1 hl (by have := HBL.out; omega)).mono ?_; rintro e w0 ⟨v0, rfl, hbd, hv, hf⟩; rw [HGN.out] at hbd; rw [HNN.out] at hv; obtain ⟨A9, c9, rfl⟩ := Kd.R_slice hv; have B0 := Aside0.mk hbd; have V0 := Aside0.mk hv; have F0 := Aside0.mk hf; clear tok0 hbd hv hf) | (go_at_call 92; have _t := tok1; refine (spec_l4Build_gate.calls G base ins ov gn g1 1 1 0 d _ (Nat.le_trans hb F0.out.size) B0.out hi0 hi1 (by omega) N0.out G1.out).mono ?_; rintro e w1 ⟨rfl, hbd, hf⟩; have B1 := Aside0.mk hbd; have F1 := Aside0.mk (F0.out.trans hf); have V1 := Aside0.mk (Fr.R hf V0.out (by decide) (fun _ hk => hk)); clear tok1 hbd hf) | (go_at_call 93; have _t := tok2; refine (spec_l4Build_add.calls G base ins ov g1 A1 A9 c1 c9 a nn d w1 (Nat.le_trans hb F1.out.size) B1.out (Fr.C_step Hha.out F1.out) (Fr.C_own V1.out (by decide) (fun _ hk => hk)) hi0 hi1 L1 (by omega) NL.out).mono ?_; rintro e w2 ⟨v2, rfl, hbd, hv, hf⟩; have B2 := Aside0.mk hbd; have V2 := Aside0.mk (Kd.R_lower hv F1.out.size); have F2 := Aside0.mk (F1.out.trans hf); clear tok2 hbd hv hf))
 go_ret
 rw [HT.out]
 exact ⟨_, rfl, B2.out, V2.out, F2.out⟩

set_option maxHeartbeats 16000000 in
set_option maxRecDepth 100000 in
/-- The gates of the operator 5. -/
theorem spec_l4Build_two_5.calls (G base : Nat) (ins : Int) (ov : Value) (g : List S93) (A1 A2 : Option Addr) (c1 c2 : Nat) (a b : List Int) (w : World) (hb : base ≤ w.heap.size) (HBD : Bd 85 G base ins ov w g) (ha : (∀ W', Fr 93 G base w W' → Kd.C (Kd.int .i64) W' A1 a.length a)) (hb2 : (∀ W', Fr 93 G base w W' → Kd.C (Kd.int .i64) W' A2 b.length b)) (hi0 : 0 ≤ ins) (hi1 : ins ≤ 1000000) (hl : g.length ≤ 900000) (hlm : g.length ≤ 800000) (hal : a.length ≤ 50) (hal1 : 1 ≤ a.length) (hc1 : a.length ≤ c1) (hc2 : b.length ≤ c2) (hbl : b.length = a.length) :
  Calls Try.prog 64 #[.pointer (some ⟨G, 0, none⟩), .int .i64 5, .slice A1 a.length c1, .slice A2 b.length c2] w fun e w' => ∃ v : Value, e = .returned v ∧ Bd 85 G base ins ov w' (twoN ins 5 a b g).1 ∧ Kd.R (Kd.int .i64) 3 w' w.heap.size (fun k => k ≠ G) v (twoN ins 5 a b g).2 ∧ Fr 93 G base w w' := by
 have hGlt : G < w.heap.size := by obtain ⟨gv, hG, _⟩ := HBD; exact blk_lt hG
 have HBD0 := Aside0.mk HBD
 have Hha := Aside0.mk ha
 have Hhb2 := Aside0.mk hb2
 have HBL := Aside0.mk hbl
 clear HBD ha hb2 hbl
 have hu1 := Try.underlying25
 have HT := Aside0.mk (show twoN ins 5 a b g = mulN ins a b g b.length from by unfold twoN; simp)
 have tok1 : True := trivial
 go_enter Try.func64, Try.ntmps64
 go_wp2_with (go_at_call 94; have _t := tok1; refine (spec_l4Build_mul.calls G base ins ov g A1 A2 c1 c2 a b w hb HBD0.out Hha.out Hhb2.out hi0 hi1 hl hlm hal HBL.out).mono ?_; rintro e w1 ⟨v1, rfl, hbd, hv, hf⟩; have B1 := Aside0.mk hbd; have V1 := Aside0.mk hv; have F1 := Aside0.mk hf; clear tok1 hbd hv hf)
 go_ret
 rw [HT.out]
 exact ⟨_, rfl, B1.out, V1.out, F1.out⟩

set_option maxHeartbeats 16000000 in
set_option maxRecDepth 100000 in
/-- The gates of the operator 14. -/
theorem spec_l4Build_two_14.calls (G base : Nat) (ins : Int) (ov : Value) (g : List S93) (A1 A2 : Option Addr) (c1 c2 : Nat) (a b : List Int) (w : World) (hb : base ≤ w.heap.size) (HBD : Bd 85 G base ins ov w g) (ha : (∀ W', Fr 93 G base w W' → Kd.C (Kd.int .i64) W' A1 a.length a)) (hb2 : (∀ W', Fr 93 G base w W' → Kd.C (Kd.int .i64) W' A2 b.length b)) (hi0 : 0 ≤ ins) (hi1 : ins ≤ 1000000) (hl : g.length ≤ 900000) (hlm : g.length ≤ 800000) (hal : a.length ≤ 50) (hal1 : 1 ≤ a.length) (hc1 : a.length ≤ c1) (hc2 : b.length ≤ c2) (hbl : b.length = a.length) :
  Calls Try.prog 64 #[.pointer (some ⟨G, 0, none⟩), .int .i64 14, .slice A1 a.length c1, .slice A2 b.length c2] w fun e w' => ∃ v : Value, e = .returned v ∧ Bd 85 G base ins ov w' (twoN ins 14 a b g).1 ∧ Kd.R (Kd.int .i64) 3 w' w.heap.size (fun k => k ≠ G) v (twoN ins 14 a b g).2 ∧ Fr 93 G base w w' := by
 have hGlt : G < w.heap.size := by obtain ⟨gv, hG, _⟩ := HBD; exact blk_lt hG
 have HBD0 := Aside0.mk HBD
 have Hha := Aside0.mk ha
 have Hhb2 := Aside0.mk hb2
 have HBL := Aside0.mk hbl
 clear HBD ha hb2 hbl
 have hu1 := Try.underlying25
 obtain ⟨x, hx⟩ : ∃ q, (eqN ins a b g a.length).2 = q := ⟨_, rfl⟩
 have ht : twoN ins 14 a b g = ((eqN ins a b g a.length).1, [x]) := by rw [← hx]; unfold twoN; simp
 have HT := Aside0.mk ht
 have HX := Aside0.mk hx
 have tok1 : True := trivial
 clear ht hx
 go_enter Try.func64, Try.ntmps64
 go_wp2_with (go_at_call 96; have _t := tok1; refine (spec_l4Build_eq.calls G base ins ov g A1 A2 c1 c2 a b w hb HBD0.out Hha.out Hhb2.out hi0 hi1 hl (by omega) HBL.out).mono ?_; rintro e w1 ⟨rfl, hbd, hf⟩; rw [HX.out]; have B1 := Aside0.mk hbd; have F1 := Aside0.mk hf; have hs1 := hf.size; clear tok1 hbd hf)
 go_ret
 rw [HT.out]
 exact ⟨_, rfl, B1.out.alloc _, Kd.R_lower (R_one w1 3 (fun k => k ≠ G) x (by omega)) hs1, F1.out.alloc _⟩

set_option maxHeartbeats 16000000 in
set_option maxRecDepth 100000 in
/-- The gates of the operator 15. -/
theorem spec_l4Build_two_15.calls (G base : Nat) (ins : Int) (ov : Value) (g : List S93) (A1 A2 : Option Addr) (c1 c2 : Nat) (a b : List Int) (w : World) (hb : base ≤ w.heap.size) (HBD : Bd 85 G base ins ov w g) (ha : (∀ W', Fr 93 G base w W' → Kd.C (Kd.int .i64) W' A1 a.length a)) (hb2 : (∀ W', Fr 93 G base w W' → Kd.C (Kd.int .i64) W' A2 b.length b)) (hi0 : 0 ≤ ins) (hi1 : ins ≤ 1000000) (hl : g.length ≤ 900000) (hlm : g.length ≤ 800000) (hal : a.length ≤ 50) (hal1 : 1 ≤ a.length) (hc1 : a.length ≤ c1) (hc2 : b.length ≤ c2) (hbl : b.length = a.length) :
  Calls Try.prog 64 #[.pointer (some ⟨G, 0, none⟩), .int .i64 15, .slice A1 a.length c1, .slice A2 b.length c2] w fun e w' => ∃ v : Value, e = .returned v ∧ Bd 85 G base ins ov w' (twoN ins 15 a b g).1 ∧ Kd.R (Kd.int .i64) 3 w' w.heap.size (fun k => k ≠ G) v (twoN ins 15 a b g).2 ∧ Fr 93 G base w w' := by
 have hGlt : G < w.heap.size := by obtain ⟨gv, hG, _⟩ := HBD; exact blk_lt hG
 have HBD0 := Aside0.mk HBD
 have Hha := Aside0.mk ha
 have Hhb2 := Aside0.mk hb2
 have HBL := Aside0.mk hbl
 clear HBD ha hb2 hbl
 have hu1 := Try.underlying25
 obtain ⟨x, hx⟩ : ∃ q, (lessN ins a b g a.length).2 = q := ⟨_, rfl⟩
 have ht : twoN ins 15 a b g = ((lessN ins a b g a.length).1, [x]) := by rw [← hx]; unfold twoN; simp
 have HT := Aside0.mk ht
 have HX := Aside0.mk hx
 have tok1 : True := trivial
 clear ht hx
 go_enter Try.func64, Try.ntmps64
 go_wp2_with (go_at_call 97; have _t := tok1; refine (spec_l4Build_less.calls G base ins ov g A1 A2 c1 c2 a b w hb HBD0.out Hha.out Hhb2.out hi0 hi1 hl (by omega) HBL.out).mono ?_; rintro e w1 ⟨rfl, hbd, hf⟩; rw [HX.out]; have B1 := Aside0.mk hbd; have F1 := Aside0.mk hf; have hs1 := hf.size; clear tok1 hbd hf)
 go_ret
 rw [HT.out]
 exact ⟨_, rfl, B1.out.alloc _, Kd.R_lower (R_one w1 3 (fun k => k ≠ G) x (by omega)) hs1, F1.out.alloc _⟩

set_option maxHeartbeats 16000000 in
set_option maxRecDepth 100000 in
/-- The gates of the operator 16. -/
theorem spec_l4Build_two_16.calls (G base : Nat) (ins : Int) (ov : Value) (g : List S93) (A1 A2 : Option Addr) (c1 c2 : Nat) (a b : List Int) (w : World) (hb : base ≤ w.heap.size) (HBD : Bd 85 G base ins ov w g) (ha : (∀ W', Fr 93 G base w W' → Kd.C (Kd.int .i64) W' A1 a.length a)) (hb2 : (∀ W', Fr 93 G base w W' → Kd.C (Kd.int .i64) W' A2 b.length b)) (hi0 : 0 ≤ ins) (hi1 : ins ≤ 1000000) (hl : g.length ≤ 900000) (hlm : g.length ≤ 800000) (hal : a.length ≤ 50) (hal1 : 1 ≤ a.length) (hc1 : a.length ≤ c1) (hc2 : b.length ≤ c2) (hbl : b.length = a.length) :
  Calls Try.prog 64 #[.pointer (some ⟨G, 0, none⟩), .int .i64 16, .slice A1 a.length c1, .slice A2 b.length c2] w fun e w' => ∃ v : Value, e = .returned v ∧ Bd 85 G base ins ov w' (twoN ins 16 a b g).1 ∧ Kd.R (Kd.int .i64) 3 w' w.heap.size (fun k => k ≠ G) v (twoN ins 16 a b g).2 ∧ Fr 93 G base w w' := by
 have hGlt : G < w.heap.size := by obtain ⟨gv, hG, _⟩ := HBD; exact blk_lt hG
 have HBD0 := Aside0.mk HBD
 have Hha := Aside0.mk ha
 have Hhb2 := Aside0.mk hb2
 have HBL := Aside0.mk hbl
 clear HBD ha hb2 hbl
 have hu1 := Try.underlying25
 obtain ⟨m, hm⟩ : ∃ m, a.length = m + 1 := ⟨a.length - 1, by omega⟩
 have hmz : (a.length : Int) - 1 = (m : Int) := by omega
 have HLM := Aside0.mk (show m < a.length by omega)
 have HLB := Aside0.mk (show m < b.length by have := HBL.out; omega)
 have hlb := HLB.out
 have hla := HLM.out
 obtain ⟨x, hx⟩ : ∃ x, rd a m = x := ⟨_, rfl⟩
 obtain ⟨y, hy⟩ : ∃ y, rd b m = y := ⟨_, rfl⟩
 obtain ⟨d, hd⟩ : ∃ q, q = ins + (g.length : Int) := ⟨_, rfl⟩
 obtain ⟨g1, hg1⟩ : ∃ q, q = g ++ [(⟨2, x, 0⟩ : S93)] := ⟨_, rfl⟩
 obtain ⟨g2, hg2⟩ : ∃ q, q = g1 ++ [(⟨2, y, 0⟩ : S93)] := ⟨_, rfl⟩
 have n1 : (g1.length : Int) = g.length + 1 := by rw [hg1]; simp
 have n2 : (g2.length : Int) = g.length + 2 := by rw [hg2, List.length_append, List.length_singleton]; omega
 obtain ⟨p, hp⟩ : ∃ q, q = a.set m d := ⟨_, rfl⟩
 obtain ⟨q, hq⟩ : ∃ r, r = b.set m (d + 1) := ⟨_, rfl⟩
 obtain ⟨z, hz⟩ : ∃ r, (lessN ins p q g2 a.length).2 = r := ⟨_, rfl⟩
 have ht : twoN ins 16 a b g = ((lessN ins p q g2 a.length).1, [z]) := by rw [← hz, hp, hq, hg2, hg1, hd, ← hx, ← hy]; unfold twoN; rw [show a.length - 1 = m by omega]; simp
 have HT := Aside0.mk ht
 have HX := Aside0.mk hx
 have HY := Aside0.mk hy
 have HZ := Aside0.mk hz
 have HP := Aside0.mk hp
 have HQ := Aside0.mk hq
 have G1 := Aside0.mk hg1
 have G2 := Aside0.mk hg2
 have N0 := Aside0.mk hd
 have N1 := Aside0.mk (show d + 1 = ins + (g1.length : Int) by omega)
 have L1 : g1.length ≤ 1000000 := by omega
 have L2 : g2.length ≤ 900000 := by omega
 have hd0 : 0 ≤ d := by omega
 have hd1 : d ≤ 2000000 := by omega
 have OW1 := Aside0.mk (show spec_l1Own.f a = some a from by unfold spec_l1Own.f; rw [Option.bind_some, if_pos (by simp; omega), List.nil_append])
 have OW2 := Aside0.mk (show spec_l1Own.f b = some b from by unfold spec_l1Own.f; rw [Option.bind_some, if_pos (by have := HBL.out; simp; omega), List.nil_append])
 have F0 := Aside0.mk (Fr.refl 93 G base w)
 have tok1 : True := trivial
 have tok2 : True := trivial
 have tok3 : True := trivial
 have tok5 : True := trivial
 have tok7 : True := trivial
 obtain ⟨ad, e, hxa0⟩ := Kd.at_int (Hha.out _ F0.out) (m : Int) (by omega) (by omega)
 cases e
 obtain ⟨ae, e, hya0⟩ := Kd.at_int (Hhb2.out _ F0.out) (m : Int) (by omega) (by have := HLB.out; omega)
 cases e
 clear hxa0 hya0 ht hx hy hz hp hq hg1 hg2 hd n1 n2 hm
 go_enter Try.func64, Try.ntmps64
 go_wp2_with (first | (go_at_call 98; have _t := tok1; refine (spec_l1Own.calls (some ad) c1 a a w (Hha.out _ F0.out) hc1 (OW1.out)).mono ?_; rintro e w1 ⟨v1, rfl, hv, hb_⟩; obtain ⟨gr1, cp1, hv_, _, _, hh1⟩ := Kd.R_form hv (by have := HBL.out; omega); cases hv_; have R1 := Aside0.mk (Kd.R_mono (Kd.R_bound hv) (ok' := fun k => k ≠ G ∧ w.heap.size ≤ k) (fun k hk => ⟨by have := hk.2.1; have := F0.out.size; omega, hk.2.1⟩)); have F1 := Aside0.mk (F0.out.step_below hb_); have B1 := Aside0.mk (HBD0.out.below hb_); clear tok1 hv hb_ hh1) | (go_at_call 98; have _t := tok2; refine (spec_l1Own.calls (some ae) c2 b b w1 (Hhb2.out _ F1.out) hc2 (OW2.out)).mono ?_; rintro e w2 ⟨v2, rfl, hv, hb_⟩; obtain ⟨gr2, cp2, hv_, _, _, hh2⟩ := Kd.R_form hv (by have := HBL.out; omega); cases hv_; have R2 := Aside0.mk (Kd.R_mono (Kd.R_bound hv) (ok' := fun k => k ≠ G ∧ w1.heap.size ≤ k) (fun k hk => ⟨by have := hk.2.1; have := F1.out.size; omega, hk.2.1⟩)); have F2 := Aside0.mk (F1.out.step_below hb_); have B2 := Aside0.mk (B1.out.below hb_); have P2 := Aside0.mk (R_till R1.out); have P2 := Aside0.mk (Kd.R_below P2.out hb_); have hxa := Fr.cellAt F2.out Hha.out HLM.out HX.out; clear tok2 hv hb_ hh2) | (go_at_call 92; have _t := tok3; refine (spec_l4Build_gate.calls G base ins ov g g1 2 x 0 d _ (Nat.le_trans hb F2.out.size) B2.out hi0 hi1 (by omega) N0.out G1.out).mono ?_; rintro e w3 ⟨rfl, hbd, hf⟩; have B3 := Aside0.mk hbd; have F3 := Aside0.mk (F2.out.trans hf); have P3 := Aside0.mk (Fr.R hf P2.out (by decide) (fun _ hk => hk.1.1)); have R3 := Aside0.mk (Fr.R hf R2.out (by decide) (fun _ hk => hk.1)); obtain ⟨⟨u3, hc3⟩, hf3⟩ := R_placeI P3.out m HLM.out; clear hxa; clear tok3 hbd hf) | ((with_reducible refine gate_store (t := 3) (p := 92) rfl ?_); refine store_event (t := 3) (p := 92) (v := .tmp 91) (w1 := w3.setCell ⟨gr1, m, none⟩ (.int .i64 d)) ?hg ?ho ?hn ?hr ?_; (case ho => rfl); (case hg => rfl); (case hn => rfl); (case hr => first | (go_simp; done) | (go_simp; rfl)); intro w4 hw; obtain ⟨hR4, hg4⟩ := R_setI P3.out m HLM.out d; rw [← hw] at hR4 hg4; have P4 := Aside0.mk hR4; have R4 := Aside0.mk (R_new_grown R3.out hg4 (fun k e_ => by injection e_ with e_; have := (P3.out.1 gr1 rfl).2; omega)); have B4 := Aside0.mk (Bd.grown B3.out hg4 (fun k e_ => by injection e_ with e_; rw [← e_]; exact Kd.R_typed P3.out gr1 rfl) (by decide) (by decide)); have F4 := Aside0.mk (Fr.grown_new F3.out hg4 (fun k e_ => by injection e_ with e_; have := own_ge P3.out gr1 rfl; omega)); have hxb := Fr.cellAt F4.out Hhb2.out HLB.out HY.out; clear hw hR4 hg4 hc3 hf3) | (go_at_call 92; have _t := tok5; refine (spec_l4Build_gate.calls G base ins ov g1 g2 2 y 0 (d + 1) _ (Nat.le_trans hb F4.out.size) B4.out hi0 hi1 L1 N1.out G2.out).mono ?_; rintro e w5 ⟨rfl, hbd, hf⟩; have B5 := Aside0.mk hbd; have F5 := Aside0.mk (F4.out.trans hf); have P5 := Aside0.mk (Fr.R hf P4.out (by decide) (fun _ hk => hk.1.1)); have R5 := Aside0.mk (Fr.R hf R4.out (by decide) (fun _ hk => hk.1)); obtain ⟨⟨u5, hc5⟩, hf5⟩ := R_placeI R5.out m HLB.out; clear hxb; clear tok5 hbd hf) | ((with_reducible refine gate_store (t := 3) (p := 101) rfl ?_); refine store_event (t := 3) (p := 101) (v := .tmp 100) (w1 := w5.setCell ⟨gr2, m, none⟩ (.int .i64 (d + 1))) ?hg ?ho ?hn ?hr ?_; (case ho => rfl); (case hg => rfl); (case hn => rfl); (case hr => first | (go_simp; done) | (go_simp; rfl)); intro w6 hw; obtain ⟨hR6, hg6⟩ := R_setI R5.out m HLB.out (d + 1); rw [← hw] at hR6 hg6; have R6 := Aside0.mk hR6; have P6 := Aside0.mk (R_old_grown P5.out hg6 (fun k e_ => by injection e_ with e_; have := (R5.out.1 gr2 rfl).2; omega)); have B6 := Aside0.mk (Bd.grown B5.out hg6 (fun k e_ => by injection e_ with e_; rw [← e_]; exact Kd.R_typed R5.out gr2 rfl) (by decide) (by decide)); have F6 := Aside0.mk (Fr.grown_new F5.out hg6 (fun k e_ => by injection e_ with e_; have := own_ge R5.out gr2 rfl; have := F1.out.size; omega)); have hp6 := P6.out; rw [← HP.out] at hp6; have hq6 := R6.out; rw [← HQ.out] at hq6; have CP6 := Aside0.mk (Fr.C_own (tG := 93) (G := G) (base := base) hp6 (by decide) (fun _ hk => hk.1.1)); have CQ6 := Aside0.mk (Fr.C_own (tG := 93) (G := G) (base := base) hq6 (by decide) (fun _ hk => hk.1)); clear hp6 hq6 hw hR6 hg6 hc5 hf5) | (go_at_call 97; have _t := tok7; refine calls_of_args (args' := #[.pointer (some ⟨G, 0, none⟩), .slice (some ⟨gr1, 0, none⟩) p.length cp1, .slice (some ⟨gr2, 0, none⟩) q.length cp2]) (by rw [HP.out, HQ.out, List.length_set, List.length_set]) ?_; refine (spec_l4Build_less.calls G base ins ov g2 (some ⟨gr1, 0, none⟩) (some ⟨gr2, 0, none⟩) cp1 cp2 p q w6 (Nat.le_trans hb F6.out.size) B6.out CP6.out CQ6.out hi0 hi1 L2 (by rw [HP.out, List.length_set]; omega) (by rw [HP.out, HQ.out, List.length_set, List.length_set]; exact HBL.out)).mono ?_; rintro e w7 ⟨rfl, hbd, hf⟩; rw [show p.length = a.length by rw [HP.out, List.length_set]] at hbd ⊢; rw [HZ.out]; have B7 := Aside0.mk hbd; have F7 := Aside0.mk (F6.out.trans hf); have hs7 := F7.out.size; clear tok7 hbd hf))
 go_ret
 rw [HT.out]
 exact ⟨_, rfl, B7.out.alloc _, Kd.R_lower (R_one w7 3 (fun k => k ≠ G) z (by omega)) hs7, F7.out.alloc _⟩

theorem spec_l4Build_two.calls (G base : Nat) (ins : Int) (ov : Value) (g : List S93) (op : Int) (A1 A2 : Option Addr) (c1 c2 : Nat) (a b : List Int) (w : World) (hop : twoOp op = true) (hb : base ≤ w.heap.size) (HBD : Bd 85 G base ins ov w g) (ha : (∀ W', Fr 93 G base w W' → Kd.C (Kd.int .i64) W' A1 a.length a)) (hb2 : (∀ W', Fr 93 G base w W' → Kd.C (Kd.int .i64) W' A2 b.length b)) (hi0 : 0 ≤ ins) (hi1 : ins ≤ 1000000) (hl : g.length ≤ 900000) (hlm : g.length ≤ 800000) (hal : a.length ≤ 50) (hal1 : 1 ≤ a.length) (hc1 : a.length ≤ c1) (hc2 : b.length ≤ c2) (hbl : b.length = a.length) :
  Calls Try.prog 64 #[.pointer (some ⟨G, 0, none⟩), .int .i64 op, .slice A1 a.length c1, .slice A2 b.length c2] w fun e w' => ∃ v : Value, e = .returned v ∧ Bd 85 G base ins ov w' (twoN ins op a b g).1 ∧ Kd.R (Kd.int .i64) 3 w' w.heap.size (fun k => k ≠ G) v (twoN ins op a b g).2 ∧ Fr 93 G base w w' := by
 have h : op = 3 ∨ op = 4 ∨ op = 5 ∨ op = 8 ∨ op = 9 ∨ op = 10 ∨ op = 14 ∨ op = 15 ∨ op = 16 ∨ op = 17 ∨ op = 18 := by unfold twoOp at hop; simp only [Bool.or_eq_true, beq_iff_eq] at hop; omega
 clear hop
 rcases h with rfl | rfl | rfl | rfl | rfl | rfl | rfl | rfl | rfl | rfl | rfl
 ·exact spec_l4Build_two_3.calls G base ins ov g A1 A2 c1 c2 a b w hb HBD ha hb2 hi0 hi1 hl hlm hal hal1 hc1 hc2 hbl
 ·exact spec_l4Build_two_4.calls G base ins ov g A1 A2 c1 c2 a b w hb HBD ha hb2 hi0 hi1 hl hlm hal hal1 hc1 hc2 hbl
 ·exact spec_l4Build_two_5.calls G base ins ov g A1 A2 c1 c2 a b w hb HBD ha hb2 hi0 hi1 hl hlm hal hal1 hc1 hc2 hbl
 ·exact spec_l4Build_two_8.calls G base ins ov g A1 A2 c1 c2 a b w hb HBD ha hb2 hi0 hi1 hl hlm hal hal1 hc1 hc2 hbl
 ·exact spec_l4Build_two_9.calls G base ins ov g A1 A2 c1 c2 a b w hb HBD ha hb2 hi0 hi1 hl hlm hal hal1 hc1 hc2 hbl
 ·exact spec_l4Build_two_10.calls G base ins ov g A1 A2 c1 c2 a b w hb HBD ha hb2 hi0 hi1 hl hlm hal hal1 hc1 hc2 hbl
 ·exact spec_l4Build_two_14.calls G base ins ov g A1 A2 c1 c2 a b w hb HBD ha hb2 hi0 hi1 hl hlm hal hal1 hc1 hc2 hbl
 ·exact spec_l4Build_two_15.calls G base ins ov g A1 A2 c1 c2 a b w hb HBD ha hb2 hi0 hi1 hl hlm hal hal1 hc1 hc2 hbl
 ·exact spec_l4Build_two_16.calls G base ins ov g A1 A2 c1 c2 a b w hb HBD ha hb2 hi0 hi1 hl hlm hal hal1 hc1 hc2 hbl
 ·exact spec_l4Build_two_17.calls G base ins ov g A1 A2 c1 c2 a b w hb HBD ha hb2 hi0 hi1 hl hlm hal hal1 hc1 hc2 hbl
 ·exact spec_l4Build_two_18.calls G base ins ov g A1 A2 c1 c2 a b w hb HBD ha hb2 hi0 hi1 hl hlm hal hal1 hc1 hc2 hbl


-- HAND
/-! ### spec_l5Gates: function 35 -/
-- IMPORT Derived.StillTailTactics
theorem need_two {op : Int} (h : twoOp op = true) : ∃ p o, spec_l2Need.f 1 op = some (2, p, o) := by
 have h : op = 3 ∨ op = 4 ∨ op = 5 ∨ op = 8 ∨ op = 9 ∨ op = 10 ∨ op = 14 ∨ op = 15 ∨ op = 16 ∨ op = 17 ∨ op = 18 := by unfold twoOp at h; simp only [Bool.or_eq_true, beq_iff_eq] at h; omega
 rcases h with rfl | rfl | rfl | rfl | rfl | rfl | rfl | rfl | rfl | rfl | rfl <;> exact ⟨_, _, rfl⟩
/-- The reference's circuit of an expression. -/
def spec_l5Gates.f (a0 : Int) (a1 : Int) (l2 : List S63) : Option (Int × List S93 × List Int) := gatesOf a0 a1 l2
set_option maxHeartbeats 32000000 in
set_option maxRecDepth 100000 in
theorem spec_l5Gates.calls (a0 : Int) (a1 : Int) (A2 : Option Addr) (c2 : Nat) (l2 : List S63) (r1 : Int) (r2 : List S93) (r3 : List Int) (w : World) (hr2 : Kd.C k63 w A2 l2.length l2) (hc2 : l2.length ≤ c2) (h : spec_l5Gates.f a0 a1 l2 = some (r1, r2, r3)) :
  Calls Try.prog 35 #[.int .i64 a0, .int .i64 a1, .slice A2 l2.length c2] w fun e w' => ∃ v1_ v2_ : Value, e = .returned (.agg #[.int .i64 r1, v1_, v2_]) ∧ Kd.R k93 93 w' w.heap.size (fun _ => True) v1_ r2 ∧ Kd.R (Kd.int .i64) 3 w' w.heap.size (fun _ => True) v2_ r3 ∧ Below w.heap.size w w' := by
 obtain ⟨wd, rest, rfl, hw1, hw4, h10, h14, hll, hr1, hi0, hi1, hgf, ho⟩ := gatesFor_open (show gatesOf _ a1 l2 = _ from h)
 have hmul : wrap64 ((wd : Int) * a1) = r1 := by rw [hr1]; unfold wrap64; omega
 have HGF := Aside0.mk hgf
 have HR := Aside0.mk hr2
 have HO := Aside0.mk ho
 clear h hr2 hr1 hgf ho
 have hu0 := Try.underlying25
 have hu1 := Try.underlying86
 have hu2 := Try.underlying27
 have hu3 := Try.underlying63
 have hu4 := Try.underlying30
 have hu5 := Try.underlying85
 go_enter Try.func35, Try.ntmps35
 go_wp2_with (first
  | ((with_reducible refine gate_dst (N := 6) rfl ?_); refine box_event ?hg (N := 6) ?hd (cs := #[.int .i64 0, .slice none 0 0, .slice none 0 0]) (t := 27) ?hr ?_; (case hd => rfl); (case hg => rfl); (case hr => first | (go_simp; done) | (go_simp; rfl)); intro K hK w1 hKb hb1; have HK1 := Aside0.mk hKb; have L1 := Aside0.mk hb1; have HKe := Aside0.mk hK; clear hKb hb1 hK)
  | ((with_reducible refine gate_dst (N := 22) rfl ?_); refine box_event ?hg (N := 22) ?hd (cs := #[.int .i64 r1, .slice none 0 0, .slice none 0 0]) (t := 85) ?hr ?_; (case hd => rfl); (case hg => rfl); (case hr => first | (go_simp; done) | (go_simp; rfl)); intro G hG w5 hGb hb2; have HG2 := Aside0.mk hGb; have L2 := Aside0.mk hb2; have HGe := Aside0.mk hG; clear hGb hb2 hG))
 have hszK : w.heap.size ≤ K := by rw [HKe.out]; exact Nat.le_refl _
 have hKG : K < w1.heap.size := blk_lt HK1.out
 have hsz1 : w.heap.size ≤ w1.heap.size := L1.out.size
 have hszG : G = w1.heap.size := HGe.out
 have HK5 := Aside0.mk (blk_below HK1.out L2.out)
 have V5 := Aside0.mk (Kd.R_nil (Kd.slice 3 (Kd.int .i64)) 25 w5 w.heap.size (fun k => k ≠ G))
 have L5 := Aside0.mk (below_step L1.out L2.out)
 have B5 : Aside0 (Bd 85 G w.heap.size r1 (.slice none 0 0) w5 []) := ⟨⟨.slice none 0 0, HG2.out, Kd.R_nil _ _ _ _ _⟩⟩
 have hGw : w.heap.size ≤ G := by omega
 have hKneG : K ≠ G := by omega
 clear HG2 HK1 L1 L2 HKe HGe hszG hKG hmul h10 h14 hsz1
 go_loopg [8, 25] l2.length (fun gg ss si wr => ∃ (kk : Nat) (gk : List S93) (stk : List (List Int)), kk ≤ l2.length ∧ l2.length - kk ≤ gg ∧ si = .int .i64 kk ∧ Aside0 (gfold wd r1 (l2.drop kk) (gk, stk) = some (r2, r3 :: rest)) ∧ Aside0 (Bd 85 G w.heap.size r1 (.slice none 0 0) wr gk) ∧ Aside0 (Kd.R (Kd.slice 3 (Kd.int .i64)) 25 wr w.heap.size (fun k => k ≠ G) ss stk) ∧ Aside0 (wr.heap[K]? = some (.cells #[.int .i64 0, .slice none 0 0, .slice none 0 0] 27 (0, 0))) ∧ Aside0 (Below w.heap.size w wr))
 case atStart => exact ⟨0, [], [], Nat.zero_le _, by omega, rfl, HGF, B5, V5, HK5, L5⟩
 case round =>
  clear HGF B5 V5 HK5 L5
  obtain ⟨kk, gk, stk, hkk, hg, rfl, HGF, HB, HV, HK, HL⟩ := hrel
  by_cases hlt : kk < l2.length
  ·have hltz : (kk : Int) < (l2.length : Int) := by omega
   obtain ⟨s1, hs1, hrest⟩ := gfold_at HGF.out hlt
   obtain ⟨ad, e, hx0, hx1⟩ := at_T63 (Kd.C_below HR.out HL.out) (kk : Int) (by omega) hltz
   cases e
   obtain ⟨op, hop⟩ : ∃ q, (rd_T63 l2 (kk : Int)).f0 = q := ⟨_, rfl⟩
   obtain ⟨nn, hnn⟩ : ∃ q, (rd_T63 l2 (kk : Int)).f1 = q := ⟨_, rfl⟩
   rw [hop, Int.toNat_natCast] at hx0
   rw [hnn, Int.toNat_natCast] at hx1
   obtain ⟨⟨hgl, hsl⟩, hcase⟩ := gstep_cases hs1
   rw [hop, hnn] at hcase
   dsimp only at hgl hsl
   have HREST := Aside0.mk hrest
   have hszr := HL.out.size
   obtain ⟨A8, c8, rfl⟩ := Kd.R_slice HV.out
   have hGr : G < wr.heap.size := by obtain ⟨_, hG_, _⟩ := HB.out; exact blk_lt hG_
   obtain ⟨X, hX⟩ : ∃ q, wr.heap.size = q := ⟨_, rfl⟩
   have hXG : X ≠ G := by omega
   have HXe := Aside0.mk hX
   have tokN : True := trivial
   clear hs1 hrest hop hnn HGF hX
   rcases hcase with ⟨rfl, hn0, hn1, rfl⟩ | ⟨rfl, hn0, hn1, rfl⟩ | ⟨rfl, hn0, hn1, rfl⟩ | ⟨hop, r, a, rfl, hal, rfl⟩ | ⟨hop, r, a, b, rfl, hbl, hal1, hal, rfl⟩
   ·obtain ⟨q, hq⟩ : ∃ q, nn * (wd : Int) = q := ⟨_, rfl⟩
    have hq0 : 0 ≤ q := by rw [← hq]; exact Int.mul_nonneg hn0 (by omega)
    have hq1 : q ≤ 4000 := by have : nn * (wd : Int) ≤ 1000 * 4 := Int.mul_le_mul hn1 (by omega) (by omega) (by omega); omega
    have HQ := Aside0.mk hq
    clear hq
    go_wp2_with (go_at_call 61; have _t := tokN; refine (spec_l2Need.calls 1 (2) 0 1 1 _ rfl).mono ?_; rintro e w8 ⟨rfl, hd⟩; have hb8 := hd.below; have B8 := Aside0.mk ((HB.out.alloc (.cells #[.int .i64 (2), .int .u64 nn] 63)).below hb8); have V8 := Aside0.mk (Kd.R_below (Kd.R_alloc HV.out (.cells #[.int .i64 (2), .int .u64 nn] 63)) hb8); have K8 := Aside0.mk (blk_below (blk_alloc HK.out (.cells #[.int .i64 (2), .int .u64 nn] 63)) hb8); have L8 := Aside0.mk (below_step (below_alloc HL.out (.cells #[.int .i64 (2), .int .u64 nn] 63)) hb8); have X8 : Aside0 (w8.heap[X]? = some (.cells #[.int .i64 (2), .int .u64 nn] 63 (0, 0))) := ⟨by rw [← HXe.out]; exact blk_below (heap_alloc_new wr _) hb8⟩; have hx80 : w8.cell? ⟨X, 0, none⟩ = some (.int .i64 (2)) := (blk_cell X8.out 0).trans rfl; have hx81 : w8.cell? ⟨X, 1, none⟩ = some (.int .u64 nn) := (blk_cell X8.out 1).trans rfl; have hsz8 : X < w8.heap.size := blk_lt X8.out; have hG8 : Aside0 (G < w8.heap.size) := ⟨by obtain ⟨_, hG_, _⟩ := B8.out; exact blk_lt hG_⟩; rw [HXe.out]; clear tokN hd hb8)
    have P0 := Aside0.mk (Kd.R_nil (Kd.int .i64) 3 w8 w8.heap.size (fun k => k ≠ G))
    have Q0 := Aside0.mk (Below.refl w8.heap.size w8)
    have HX81 := Aside0.mk hx81
    have hszw8 := L8.out.size
    clear hx80 hx81
    go_loopg [14, 16] wd (fun gg so si wr => ∃ ii : Nat, ii ≤ wd ∧ wd - ii ≤ gg ∧ si = .int .i64 ii ∧ Aside0 (Kd.R (Kd.int .i64) 3 wr w8.heap.size (fun k => k ≠ G) so (varW wd nn ii)) ∧ Aside0 (Below w8.heap.size w8 wr))
    case atStart => exact ⟨0, Nat.zero_le _, by omega, rfl, P0, Q0⟩
    case round =>
     clear P0 Q0
     obtain ⟨ii, hii, hg2, rfl, HP, HQ2⟩ := hrel
     have hvl := varW_len wd nn ii
     by_cases hlt2 : ii < wd
     ·have hlt2z : (ii : Int) < (wd : Int) := by omega
      have hs2 : varW wd nn (ii + 1) = varW wd nn ii ++ [q + ii] := by rw [← HQ.out]; rfl
      obtain ⟨os, hos⟩ : ∃ q, varW wd nn ii = q := ⟨_, rfl⟩
      rw [hos] at HP hs2 hvl
      have hol : os.length ≤ 1000 := by omega
      have HS2 := Aside0.mk hs2
      clear hos hs2 hvl
      have hxi : wr.cell? ⟨X, 1, none⟩ = some (.int .u64 nn) := (HQ2.out.cell (p := ⟨X, 1, none⟩) hsz8).trans HX81.out
      have hmul : wrap64 (nn * (wd : Int)) = q := by have := HQ.out; unfold wrap64; omega
      have hszi := HQ2.out.size
      have hG8_ := hG8.out
      go_wp2_with ((with_reducible refine gate_builtin (b := .append) (xs := #[.tmp 61, .tmp 69]) rfl ?_); at_builtin; refine Kd.R_append (Kd.int .i64) (w0 := w8) w8.heap.size rfl (.tmp 61) (.tmp 69) 25 3 (.int .i64 0) 8 rfl Try.underlying25 info_int rfl (by decide) (by omega) _ os (q + ii) [.int .i64 (q + ii)] (fun k => k ≠ G) (fun _ => False) rfl (by first | (go_simp; done) | (go_simp; rfl)) ?aP (fun _ hk => hk.elim) ?aF ?aO ?aB ?aS ?aL ?_; (case aP => exact rfl); (case aF => intro k hk; omega); (case aO => exact HP.out); (case aB => exact HQ2.out); (case aS => exact hszi); (case aL => omega); intro v22 w22 hv hb22 _ _; have P22 := Aside0.mk hv; have Q22 := Aside0.mk hb22; clear hv hb22)
      go_roundg (wd - (ii + 1))
      case measure => omega
      case rel => exact ⟨ii + 1, by omega, by omega, by go_num, by rw [HS2.out]; exact P22, Q22⟩
     ·have hlt2z : ¬ (ii : Int) < (wd : Int) := by omega
      obtain rfl : ii = wd := by omega
      obtain ⟨A9, c9, rfl⟩ := Kd.R_slice HP.out
      obtain ⟨vw, hvw⟩ : ∃ q, varW ii nn ii = q := ⟨_, rfl⟩
      rw [hvw] at HP HREST ⊢
      clear hvw
      have RV9 := Aside0.mk (Kd.R_lower HP.out hszw8)
      have hsz9 := HQ2.out.size
      have V9 := Aside0.mk (Kd.R_below V8.out HQ2.out)
      have B9 := Aside0.mk (B8.out.below HQ2.out)
      have K9 := Aside0.mk (blk_below K8.out HQ2.out)
      have L9 := Aside0.mk (below_step L8.out HQ2.out)
      have hG9 : Aside0 (G < wr.heap.size) := ⟨by have := hG8.out; omega⟩
      clear hsz9
      have hcap9 : stk.length ≤ c8 := (Kd.R_reads' V9.out).2.1
      obtain ⟨i0_, hi0_, _, _, _⟩ := info_parts info_ints
      have hcut := cut_to (P := Try.prog) 86 25 .i64 Try.underlying86 hi0_ (A8) (stk.length) c8 ((stk.length : Nat) : Int) (by omega) (by omega) hcap9
      rw [Int.toNat_natCast] at hcut
      have VT := Aside0.mk (show Kd.R (Kd.slice 3 (Kd.int .i64)) 25 (wr.alloc (.cells #[] 25)) w.heap.size (fun k => k ≠ G ∧ k < wr.heap.size) (.slice (A8) (stk.length) c8) (stk) from Kd.R_alloc (R_till V9.out) _)
      have E9 := Aside0.mk (Kd.R_lower (R_freshL (Kd.slice 3 (Kd.int .i64)) wr 25 (fun k => k ≠ G) rfl (Nat.ne_of_gt hG9.out)) L9.out.size)
      have BA := Aside0.mk (B9.out.alloc (.cells #[] 25))
      have KA := Aside0.mk (blk_alloc K9.out (.cells #[] 25))
      have LA := Aside0.mk (below_alloc L9.out (.cells #[] 25))
      have RA9 := Aside0.mk (Kd.R_alloc RV9.out (.cells #[] 25))
      have hsz9 : (wr.alloc (.cells #[] 25)).heap.size = wr.heap.size + 1 := (by simp)
      have HSA := Aside0.mk hsz9
      clear hsz9 hi0_
      go_wp2_with (first | ((with_reducible refine gate_builtin (b := .append) (xs := #[.tmp 97, .tmp 103]) rfl ?_); at_builtin; refine Kd.R_append_rows (Kd.slice 3 (Kd.int .i64)) (Rr := (Kd.slice 3 (Kd.int .i64)).M (wr.alloc (.cells #[] 25)) w.heap.size (fun k => k ≠ G ∧ k < wr.heap.size)) (w0 := w) w.heap.size rfl (.tmp 97) (.tmp 103) 86 25 (.slice none 0 0) 24 rfl Try.underlying86 info_ints rfl (by decide) (by omega) (.slice (some ⟨wr.heap.size, 0, none⟩) 0 0) ([] : List (List Int)) (stk) (A8) (stk.length) c8 (fun k => k ≠ G) (fun k => k ≠ G ∧ k < wr.heap.size) (by first | rfl | (go_simp; done) | (go_simp; rfl)) (by first | rfl | (go_simp; done) | (go_simp; rfl)) E9.out (by have h_ := R_rowsM VT.out; rwa [show (stk).length = stk.length from by first | rfl | exact HM.out | simp] at h_) (fun _ _ h_ => h_) (fun k hk => ⟨hk.1, own_ne_new hk.2⟩) ?aF LA.out ?aS ?aL ?_; (case aF => intro k hk; have hsz_ := hG9.out; have := HSA.out; omega); (case aS => exact LA.out.size); (case aL => first | omega | (simp; omega)); intro v20 w20 hv hb20 hg_ _; have hty := Kd.R_typed E9.out; have V20 := Aside0.mk (show Kd.R _ _ w20 w.heap.size (fun k => k ≠ G) v20 (stk) from hv); have B20 := Aside0.mk (Bd.grown BA.out hg_ hty (by decide) (by decide)); have K20 := Aside0.mk (blk_typed KA.out hg_ hty (by decide)); have L20 := Aside0.mk hb20; have RV20 := Aside0.mk (Kd.R_over' RA9.out hty (by decide) hg_); have hG20 : Aside0 (G < w20.heap.size) := ⟨by have h_ := hg_.size; have h2_ := HSA.out; have h3_ := hG9.out; omega⟩; obtain ⟨A20, c20, rfl⟩ := Kd.R_slice V20.out; clear hv hb20 hg_ hty) | ((with_reducible refine gate_builtin (b := .append) (xs := #[.tmp 104, .tmp 106]) rfl ?_); at_builtin; refine Kd.R_append (Kd.slice 3 (Kd.int .i64)) (w0 := w20) w.heap.size rfl (.tmp 104) (.tmp 106) 86 25 (.slice none 0 0) 24 rfl Try.underlying86 info_ints rfl (by decide) (by omega) (.slice A20 stk.length c20) stk vw [.slice A9 vw.length c9] (fun k => k ≠ G) (fun k => k ≠ G ∧ some k ≠ (.slice A20 stk.length c20 : Value).ownBlock) (by first | rfl | (go_simp; done) | (go_simp; rfl)) (by first | (go_simp; done) | (go_simp; rfl)) ?aP (fun _ hk => hk) ?aF ?aO ?aB ?aS ?aL ?_; (case aP => exact ⟨_, rfl, Kd.R_apart' RV20.out (Kd.R_typed V20.out) (by decide)⟩); (case aF => intro k hk; have hsz_ := hG20.out; omega); (case aO => exact V20.out); (case aB => exact Below.refl _ _); (case aS => exact L20.out.size); (case aL => omega); intro v30 w30 hv _ hg_ _; have V30 := Aside0.mk hv; have B30 := Aside0.mk (Bd.grown B20.out hg_ (Kd.R_typed V20.out) (by decide) (by decide)); have K30 := Aside0.mk (blk_typed K20.out hg_ (Kd.R_typed V20.out) (by decide)); have L30 := Aside0.mk (L20.out.grown hg_ L20.out.size (fun k e_ => own_ge V20.out k e_)); clear hv hg_))
      go_roundg (l2.length - (kk + 1))
      case measure => omega
      case rel => exact ⟨kk + 1, _, _, by omega, by omega, by go_num, HREST, B30, V30, K30, L30⟩
   ·obtain ⟨ga, hga⟩ : ∃ q, (emitN r1 (fun i => ⟨1, bitv nn i, 0⟩) gk wd).1 = q := ⟨_, rfl⟩
    obtain ⟨va, hva⟩ : ∃ q, (emitN r1 (fun i => ⟨1, bitv nn i, 0⟩) gk wd).2 = q := ⟨_, rfl⟩
    have hrest := HREST.out
    rw [hga, hva] at hrest
    replace HREST := Aside0.mk hrest
    have HGA := Aside0.mk hga
    have HVA := Aside0.mk hva
    have tok1 : True := trivial
    clear hrest hga hva
    go_wp2_with (first | (go_at_call 61; have _t := tokN; refine (spec_l2Need.calls 1 (1) 0 1 1 _ rfl).mono ?_; rintro e w8 ⟨rfl, hd⟩; have hb8 := hd.below; have B8 := Aside0.mk ((HB.out.alloc (.cells #[.int .i64 (1), .int .u64 nn] 63)).below hb8); have V8 := Aside0.mk (Kd.R_below (Kd.R_alloc HV.out (.cells #[.int .i64 (1), .int .u64 nn] 63)) hb8); have K8 := Aside0.mk (blk_below (blk_alloc HK.out (.cells #[.int .i64 (1), .int .u64 nn] 63)) hb8); have L8 := Aside0.mk (below_step (below_alloc HL.out (.cells #[.int .i64 (1), .int .u64 nn] 63)) hb8); have X8 : Aside0 (w8.heap[X]? = some (.cells #[.int .i64 (1), .int .u64 nn] 63 (0, 0))) := ⟨by rw [← HXe.out]; exact blk_below (heap_alloc_new wr _) hb8⟩; have hx80 : w8.cell? ⟨X, 0, none⟩ = some (.int .i64 (1)) := (blk_cell X8.out 0).trans rfl; have hx81 : w8.cell? ⟨X, 1, none⟩ = some (.int .u64 nn) := (blk_cell X8.out 1).trans rfl; have hsz8 : X < w8.heap.size := blk_lt X8.out; have hG8 : Aside0 (G < w8.heap.size) := ⟨by obtain ⟨_, hG_, _⟩ := B8.out; exact blk_lt hG_⟩; rw [HXe.out]; clear tokN hd hb8) | (go_at_call 62; have _t := tok1; refine (spec_l4Build_bits.calls G w.heap.size r1 (.slice none 0 0) gk nn wd w8 L8.out.size B8.out hi0 (by omega) (by omega) (by omega) hn0 hn1).mono ?_; rintro e w9 ⟨v9, rfl, hbd, hv, hf⟩; rw [HGA.out] at hbd; rw [HVA.out] at hv; obtain ⟨A9, c9, rfl⟩ := Kd.R_slice hv; have B9 := Aside0.mk hbd; have V9 := Aside0.mk (Fr.R hf V8.out (by decide) (fun _ hk => hk)); have K9 := Aside0.mk (blk_fr K8.out hf hKneG (by decide)); have hle9 := L8.out.size; have L9 := Aside0.mk (L8.out.trans (hf.below hGw (Nat.le_refl _) hle9)); have hG9 : Aside0 (G < w9.heap.size) := ⟨Nat.lt_of_lt_of_le hG8.out hf.size⟩; have RV9 := Aside0.mk (Kd.R_lower hv hle9); have hcap9 : stk.length ≤ c8 := (Kd.R_reads' V9.out).2.1; obtain ⟨i0_, hi0_, _, _, _⟩ := info_parts info_ints; have hcut := cut_to (P := Try.prog) 86 25 .i64 Try.underlying86 hi0_ (A8) (stk.length) c8 ((stk.length : Nat) : Int) (by omega) (by omega) hcap9; rw [Int.toNat_natCast] at hcut; have VT := Aside0.mk (show Kd.R (Kd.slice 3 (Kd.int .i64)) 25 (w9.alloc (.cells #[] 25)) w.heap.size (fun k => k ≠ G ∧ k < w9.heap.size) (.slice (A8) (stk.length) c8) (stk) from Kd.R_alloc (R_till V9.out) _); have E9 := Aside0.mk (Kd.R_lower (R_freshL (Kd.slice 3 (Kd.int .i64)) w9 25 (fun k => k ≠ G) rfl (Nat.ne_of_gt hG9.out)) L9.out.size); have BA := Aside0.mk (B9.out.alloc (.cells #[] 25)); have KA := Aside0.mk (blk_alloc K9.out (.cells #[] 25)); have LA := Aside0.mk (below_alloc L9.out (.cells #[] 25)); have RA9 := Aside0.mk (Kd.R_alloc RV9.out (.cells #[] 25)); have hsz9 : (w9.alloc (.cells #[] 25)).heap.size = w9.heap.size + 1 := (by simp); have HSA := Aside0.mk hsz9; clear hsz9 hi0_; clear tok1 hbd hv hf hx80 hx81) | ((with_reducible refine gate_builtin (b := .append) (xs := #[.tmp 97, .tmp 103]) rfl ?_); at_builtin; refine Kd.R_append_rows (Kd.slice 3 (Kd.int .i64)) (Rr := (Kd.slice 3 (Kd.int .i64)).M (w9.alloc (.cells #[] 25)) w.heap.size (fun k => k ≠ G ∧ k < w9.heap.size)) (w0 := w) w.heap.size rfl (.tmp 97) (.tmp 103) 86 25 (.slice none 0 0) 24 rfl Try.underlying86 info_ints rfl (by decide) (by omega) (.slice (some ⟨w9.heap.size, 0, none⟩) 0 0) ([] : List (List Int)) (stk) (A8) (stk.length) c8 (fun k => k ≠ G) (fun k => k ≠ G ∧ k < w9.heap.size) (by first | rfl | (go_simp; done) | (go_simp; rfl)) (by first | rfl | (go_simp; done) | (go_simp; rfl)) E9.out (by have h_ := R_rowsM VT.out; rwa [show (stk).length = stk.length from by first | rfl | exact HM.out | simp] at h_) (fun _ _ h_ => h_) (fun k hk => ⟨hk.1, own_ne_new hk.2⟩) ?aF LA.out ?aS ?aL ?_; (case aF => intro k hk; have hsz_ := hG9.out; have := HSA.out; omega); (case aS => exact LA.out.size); (case aL => first | omega | (simp; omega)); intro v20 w20 hv hb20 hg_ _; have hty := Kd.R_typed E9.out; have V20 := Aside0.mk (show Kd.R _ _ w20 w.heap.size (fun k => k ≠ G) v20 (stk) from hv); have B20 := Aside0.mk (Bd.grown BA.out hg_ hty (by decide) (by decide)); have K20 := Aside0.mk (blk_typed KA.out hg_ hty (by decide)); have L20 := Aside0.mk hb20; have RV20 := Aside0.mk (Kd.R_over' RA9.out hty (by decide) hg_); have hG20 : Aside0 (G < w20.heap.size) := ⟨by have h_ := hg_.size; have h2_ := HSA.out; have h3_ := hG9.out; omega⟩; obtain ⟨A20, c20, rfl⟩ := Kd.R_slice V20.out; clear hv hb20 hg_ hty) | ((with_reducible refine gate_builtin (b := .append) (xs := #[.tmp 104, .tmp 106]) rfl ?_); at_builtin; refine Kd.R_append (Kd.slice 3 (Kd.int .i64)) (w0 := w20) w.heap.size rfl (.tmp 104) (.tmp 106) 86 25 (.slice none 0 0) 24 rfl Try.underlying86 info_ints rfl (by decide) (by omega) (.slice A20 stk.length c20) stk va [.slice A9 va.length c9] (fun k => k ≠ G) (fun k => k ≠ G ∧ some k ≠ (.slice A20 stk.length c20 : Value).ownBlock) (by first | rfl | (go_simp; done) | (go_simp; rfl)) (by first | (go_simp; done) | (go_simp; rfl)) ?aP (fun _ hk => hk) ?aF ?aO ?aB ?aS ?aL ?_; (case aP => exact ⟨_, rfl, Kd.R_apart' RV20.out (Kd.R_typed V20.out) (by decide)⟩); (case aF => intro k hk; have hsz_ := hG20.out; omega); (case aO => exact V20.out); (case aB => exact Below.refl _ _); (case aS => exact L20.out.size); (case aL => omega); intro v30 w30 hv _ hg_ _; have V30 := Aside0.mk hv; have B30 := Aside0.mk (Bd.grown B20.out hg_ (Kd.R_typed V20.out) (by decide) (by decide)); have K30 := Aside0.mk (blk_typed K20.out hg_ (Kd.R_typed V20.out) (by decide)); have L30 := Aside0.mk (L20.out.grown hg_ L20.out.size (fun k e_ => own_ge V20.out k e_)); clear hv hg_))
    go_roundg (l2.length - (kk + 1))
    case measure => omega
    case rel => exact ⟨kk + 1, _, _, by omega, by omega, by go_num, HREST, B30, V30, K30, L30⟩
   ·obtain ⟨ga, hga⟩ : ∃ q, (emitN r1 (fun i => ⟨1, bitv nn i, 0⟩) gk 1).1 = q := ⟨_, rfl⟩
    obtain ⟨va, hva⟩ : ∃ q, (emitN r1 (fun i => ⟨1, bitv nn i, 0⟩) gk 1).2 = q := ⟨_, rfl⟩
    have hrest := HREST.out
    rw [hga, hva] at hrest
    replace HREST := Aside0.mk hrest
    have HGA := Aside0.mk hga
    have HVA := Aside0.mk hva
    have tok1 : True := trivial
    clear hrest hga hva
    go_wp2_with (first | (go_at_call 61; have _t := tokN; refine (spec_l2Need.calls 1 (20) 0 2 2 _ rfl).mono ?_; rintro e w8 ⟨rfl, hd⟩; have hb8 := hd.below; have B8 := Aside0.mk ((HB.out.alloc (.cells #[.int .i64 (20), .int .u64 nn] 63)).below hb8); have V8 := Aside0.mk (Kd.R_below (Kd.R_alloc HV.out (.cells #[.int .i64 (20), .int .u64 nn] 63)) hb8); have K8 := Aside0.mk (blk_below (blk_alloc HK.out (.cells #[.int .i64 (20), .int .u64 nn] 63)) hb8); have L8 := Aside0.mk (below_step (below_alloc HL.out (.cells #[.int .i64 (20), .int .u64 nn] 63)) hb8); have X8 : Aside0 (w8.heap[X]? = some (.cells #[.int .i64 (20), .int .u64 nn] 63 (0, 0))) := ⟨by rw [← HXe.out]; exact blk_below (heap_alloc_new wr _) hb8⟩; have hx80 : w8.cell? ⟨X, 0, none⟩ = some (.int .i64 (20)) := (blk_cell X8.out 0).trans rfl; have hx81 : w8.cell? ⟨X, 1, none⟩ = some (.int .u64 nn) := (blk_cell X8.out 1).trans rfl; have hsz8 : X < w8.heap.size := blk_lt X8.out; have hG8 : Aside0 (G < w8.heap.size) := ⟨by obtain ⟨_, hG_, _⟩ := B8.out; exact blk_lt hG_⟩; rw [HXe.out]; clear tokN hd hb8) | (go_at_call 62; have _t := tok1; refine calls_of_args (args' := #[.pointer (some ⟨G, 0, none⟩), .int .u64 nn, .int .i64 ((1 : Nat) : Int)]) rfl ?_; refine (spec_l4Build_bits.calls G w.heap.size r1 (.slice none 0 0) gk nn 1 w8 L8.out.size B8.out hi0 (by omega) (by omega) (by omega) hn0 hn1).mono ?_; rintro e w9 ⟨v9, rfl, hbd, hv, hf⟩; rw [HGA.out] at hbd; rw [HVA.out] at hv; obtain ⟨A9, c9, rfl⟩ := Kd.R_slice hv; have B9 := Aside0.mk hbd; have V9 := Aside0.mk (Fr.R hf V8.out (by decide) (fun _ hk => hk)); have K9 := Aside0.mk (blk_fr K8.out hf hKneG (by decide)); have hle9 := L8.out.size; have L9 := Aside0.mk (L8.out.trans (hf.below hGw (Nat.le_refl _) hle9)); have hG9 : Aside0 (G < w9.heap.size) := ⟨Nat.lt_of_lt_of_le hG8.out hf.size⟩; have RV9 := Aside0.mk (Kd.R_lower hv hle9); have hcap9 : stk.length ≤ c8 := (Kd.R_reads' V9.out).2.1; obtain ⟨i0_, hi0_, _, _, _⟩ := info_parts info_ints; have hcut := cut_to (P := Try.prog) 86 25 .i64 Try.underlying86 hi0_ (A8) (stk.length) c8 ((stk.length : Nat) : Int) (by omega) (by omega) hcap9; rw [Int.toNat_natCast] at hcut; have VT := Aside0.mk (show Kd.R (Kd.slice 3 (Kd.int .i64)) 25 (w9.alloc (.cells #[] 25)) w.heap.size (fun k => k ≠ G ∧ k < w9.heap.size) (.slice (A8) (stk.length) c8) (stk) from Kd.R_alloc (R_till V9.out) _); have E9 := Aside0.mk (Kd.R_lower (R_freshL (Kd.slice 3 (Kd.int .i64)) w9 25 (fun k => k ≠ G) rfl (Nat.ne_of_gt hG9.out)) L9.out.size); have BA := Aside0.mk (B9.out.alloc (.cells #[] 25)); have KA := Aside0.mk (blk_alloc K9.out (.cells #[] 25)); have LA := Aside0.mk (below_alloc L9.out (.cells #[] 25)); have RA9 := Aside0.mk (Kd.R_alloc RV9.out (.cells #[] 25)); have hsz9 : (w9.alloc (.cells #[] 25)).heap.size = w9.heap.size + 1 := (by simp); have HSA := Aside0.mk hsz9; clear hsz9 hi0_; clear tok1 hbd hv hf hx80 hx81) | ((with_reducible refine gate_builtin (b := .append) (xs := #[.tmp 97, .tmp 103]) rfl ?_); at_builtin; refine Kd.R_append_rows (Kd.slice 3 (Kd.int .i64)) (Rr := (Kd.slice 3 (Kd.int .i64)).M (w9.alloc (.cells #[] 25)) w.heap.size (fun k => k ≠ G ∧ k < w9.heap.size)) (w0 := w) w.heap.size rfl (.tmp 97) (.tmp 103) 86 25 (.slice none 0 0) 24 rfl Try.underlying86 info_ints rfl (by decide) (by omega) (.slice (some ⟨w9.heap.size, 0, none⟩) 0 0) ([] : List (List Int)) (stk) (A8) (stk.length) c8 (fun k => k ≠ G) (fun k => k ≠ G ∧ k < w9.heap.size) (by first | rfl | (go_simp; done) | (go_simp; rfl)) (by first | rfl | (go_simp; done) | (go_simp; rfl)) E9.out (by have h_ := R_rowsM VT.out; rwa [show (stk).length = stk.length from by first | rfl | exact HM.out | simp] at h_) (fun _ _ h_ => h_) (fun k hk => ⟨hk.1, own_ne_new hk.2⟩) ?aF LA.out ?aS ?aL ?_; (case aF => intro k hk; have hsz_ := hG9.out; have := HSA.out; omega); (case aS => exact LA.out.size); (case aL => first | omega | (simp; omega)); intro v20 w20 hv hb20 hg_ _; have hty := Kd.R_typed E9.out; have V20 := Aside0.mk (show Kd.R _ _ w20 w.heap.size (fun k => k ≠ G) v20 (stk) from hv); have B20 := Aside0.mk (Bd.grown BA.out hg_ hty (by decide) (by decide)); have K20 := Aside0.mk (blk_typed KA.out hg_ hty (by decide)); have L20 := Aside0.mk hb20; have RV20 := Aside0.mk (Kd.R_over' RA9.out hty (by decide) hg_); have hG20 : Aside0 (G < w20.heap.size) := ⟨by have h_ := hg_.size; have h2_ := HSA.out; have h3_ := hG9.out; omega⟩; obtain ⟨A20, c20, rfl⟩ := Kd.R_slice V20.out; clear hv hb20 hg_ hty) | ((with_reducible refine gate_builtin (b := .append) (xs := #[.tmp 104, .tmp 106]) rfl ?_); at_builtin; refine Kd.R_append (Kd.slice 3 (Kd.int .i64)) (w0 := w20) w.heap.size rfl (.tmp 104) (.tmp 106) 86 25 (.slice none 0 0) 24 rfl Try.underlying86 info_ints rfl (by decide) (by omega) (.slice A20 stk.length c20) stk va [.slice A9 va.length c9] (fun k => k ≠ G) (fun k => k ≠ G ∧ some k ≠ (.slice A20 stk.length c20 : Value).ownBlock) (by first | rfl | (go_simp; done) | (go_simp; rfl)) (by first | (go_simp; done) | (go_simp; rfl)) ?aP (fun _ hk => hk) ?aF ?aO ?aB ?aS ?aL ?_; (case aP => exact ⟨_, rfl, Kd.R_apart' RV20.out (Kd.R_typed V20.out) (by decide)⟩); (case aF => intro k hk; have hsz_ := hG20.out; omega); (case aO => exact V20.out); (case aB => exact Below.refl _ _); (case aS => exact L20.out.size); (case aL => omega); intro v30 w30 hv _ hg_ _; have V30 := Aside0.mk hv; have B30 := Aside0.mk (Bd.grown B20.out hg_ (Kd.R_typed V20.out) (by decide) (by decide)); have K30 := Aside0.mk (blk_typed K20.out hg_ (Kd.R_typed V20.out) (by decide)); have L30 := Aside0.mk (L20.out.grown hg_ L20.out.size (fun k e_ => own_ge V20.out k e_)); clear hv hg_))
    go_roundg (l2.length - (kk + 1))
    case measure => omega
    case rel => exact ⟨kk + 1, _, _, by omega, by omega, by go_num, HREST, B30, V30, K30, L30⟩
   ·have hl8 : (r ++ [a]).length = r.length + 1 := by simp
    obtain ⟨g8, cp8, e, _, _, _⟩ := Kd.R_form HV.out (by omega)
    cases e
    rw [hl8] at HV
    have hrl : r.length ≤ 1000 := by omega
    have hl8z : ((r ++ [a]).length : Int) = (r.length : Int) + 1 := by omega
    obtain ⟨ga, hga⟩ : ∃ q, (emitN r1 (fun i => ⟨2, rd a i, 0⟩) gk a.length).1 = q := ⟨_, rfl⟩
    obtain ⟨va, hva⟩ : ∃ q, (emitN r1 (fun i => ⟨2, rd a i, 0⟩) gk a.length).2 = q := ⟨_, rfl⟩
    have hrest := HREST.out
    rw [hga, hva] at hrest
    replace HREST := Aside0.mk hrest
    have HGA := Aside0.mk hga
    have HVA := Aside0.mk hva
    have tok1 : True := trivial
    clear hrest hga hva
    rcases hop with rfl | rfl
    ·clear hl8
     go_wp2_with (first | (go_at_call 61; have _t := tokN; refine (spec_l2Need.calls 1 (13) 1 1 1 _ rfl).mono ?_; rintro e w8 ⟨rfl, hd⟩; have hb8 := hd.below; have B8 := Aside0.mk ((HB.out.alloc (.cells #[.int .i64 (13), .int .u64 nn] 63)).below hb8); have V8 := Aside0.mk (Kd.R_below (Kd.R_alloc HV.out (.cells #[.int .i64 (13), .int .u64 nn] 63)) hb8); have K8 := Aside0.mk (blk_below (blk_alloc HK.out (.cells #[.int .i64 (13), .int .u64 nn] 63)) hb8); have L8 := Aside0.mk (below_step (below_alloc HL.out (.cells #[.int .i64 (13), .int .u64 nn] 63)) hb8); have X8 : Aside0 (w8.heap[X]? = some (.cells #[.int .i64 (13), .int .u64 nn] 63 (0, 0))) := ⟨by rw [← HXe.out]; exact blk_below (heap_alloc_new wr _) hb8⟩; have hx80 : w8.cell? ⟨X, 0, none⟩ = some (.int .i64 (13)) := (blk_cell X8.out 0).trans rfl; have hx81 : w8.cell? ⟨X, 1, none⟩ = some (.int .u64 nn) := (blk_cell X8.out 1).trans rfl; have hsz8 : X < w8.heap.size := blk_lt X8.out; have hG8 : Aside0 (G < w8.heap.size) := ⟨by obtain ⟨_, hG_, _⟩ := B8.out; exact blk_lt hG_⟩; rw [HXe.out]; clear tokN hd hb8; obtain ⟨A0, c0, hcl0, hcc0, RA8⟩ := R_rowLast V8.out; have RA := Aside0.mk RA8; clear RA8) | (go_at_call 63; have _t := tok1; refine (spec_l4Build_nots.calls G w.heap.size r1 (.slice none 0 0) gk A0 c0 a w8 L8.out.size B8.out (Fr.C_own RA.out (by decide) (fun _ hk => hk)) hi0 (by omega) (by omega) (by omega)).mono ?_; rintro e w9 ⟨v9, rfl, hbd, hv, hf⟩; rw [HGA.out] at hbd; rw [HVA.out] at hv; obtain ⟨A9, c9, rfl⟩ := Kd.R_slice hv; have B9 := Aside0.mk hbd; have V9 := Aside0.mk (Fr.R hf V8.out (by decide) (fun _ hk => hk)); have K9 := Aside0.mk (blk_fr K8.out hf hKneG (by decide)); have hle9 := L8.out.size; have L9 := Aside0.mk (L8.out.trans (hf.below hGw (Nat.le_refl _) hle9)); have hG9 : Aside0 (G < w9.heap.size) := ⟨Nat.lt_of_lt_of_le hG8.out hf.size⟩; have RV9 := Aside0.mk (Kd.R_lower hv hle9); have hcap9 : r.length + 1 ≤ c8 := (Kd.R_reads' V9.out).2.1; obtain ⟨i0_, hi0_, _, _, _⟩ := info_parts info_ints; have hcut := cut_to (P := Try.prog) 86 25 .i64 Try.underlying86 hi0_ (some ⟨g8, 0, none⟩) (r.length + 1) c8 ((r.length : Nat) : Int) (by omega) (by omega) hcap9; rw [Int.toNat_natCast] at hcut; have VT := Aside0.mk (show Kd.R (Kd.slice 3 (Kd.int .i64)) 25 (w9.alloc (.cells #[] 25)) w.heap.size (fun k => k ≠ G ∧ k < w9.heap.size) (.slice (some ⟨g8, 0, none⟩) (r.length) c8) (r) from Kd.R_alloc (Kd.R_mono (R_till (show Kd.R (Kd.slice 3 (Kd.int .i64)) 25 w9 w.heap.size (fun k => k ≠ G) (.slice (some ⟨g8, 0, none⟩) r.length c8) r from by have h_ := Kd.R_take V9.out (m := r.length) (by simp); rwa [List.take_left] at h_)) (fun _ hk => hk)) _); have E9 := Aside0.mk (Kd.R_lower (R_freshL (Kd.slice 3 (Kd.int .i64)) w9 25 (fun k => k ≠ G) rfl (Nat.ne_of_gt hG9.out)) L9.out.size); have BA := Aside0.mk (B9.out.alloc (.cells #[] 25)); have KA := Aside0.mk (blk_alloc K9.out (.cells #[] 25)); have LA := Aside0.mk (below_alloc L9.out (.cells #[] 25)); have RA9 := Aside0.mk (Kd.R_alloc RV9.out (.cells #[] 25)); have hsz9 : (w9.alloc (.cells #[] 25)).heap.size = w9.heap.size + 1 := (by simp); have HSA := Aside0.mk hsz9; clear hsz9 hi0_; clear tok1 hbd hv hf hx80 hx81) | ((with_reducible refine gate_builtin (b := .append) (xs := #[.tmp 97, .tmp 103]) rfl ?_); at_builtin; refine Kd.R_append_rows (Kd.slice 3 (Kd.int .i64)) (Rr := (Kd.slice 3 (Kd.int .i64)).M (w9.alloc (.cells #[] 25)) w.heap.size (fun k => k ≠ G ∧ k < w9.heap.size)) (w0 := w) w.heap.size rfl (.tmp 97) (.tmp 103) 86 25 (.slice none 0 0) 24 rfl Try.underlying86 info_ints rfl (by decide) (by omega) (.slice (some ⟨w9.heap.size, 0, none⟩) 0 0) ([] : List (List Int)) (r) (some ⟨g8, 0, none⟩) (r.length) c8 (fun k => k ≠ G) (fun k => k ≠ G ∧ k < w9.heap.size) (by first | rfl | (go_simp; done) | (go_simp; rfl)) (by first | rfl | (go_simp; done) | (go_simp; rfl)) E9.out (by have h_ := R_rowsM VT.out; rwa [show (r).length = r.length from by first | rfl | exact HM.out | simp] at h_) (fun _ _ h_ => h_) (fun k hk => ⟨hk.1, own_ne_new hk.2⟩) ?aF LA.out ?aS ?aL ?_; (case aF => intro k hk; have hsz_ := hG9.out; have := HSA.out; omega); (case aS => exact LA.out.size); (case aL => first | omega | (simp; omega)); intro v20 w20 hv hb20 hg_ _; have hty := Kd.R_typed E9.out; have V20 := Aside0.mk (show Kd.R _ _ w20 w.heap.size (fun k => k ≠ G) v20 (r) from hv); have B20 := Aside0.mk (Bd.grown BA.out hg_ hty (by decide) (by decide)); have K20 := Aside0.mk (blk_typed KA.out hg_ hty (by decide)); have L20 := Aside0.mk hb20; have RV20 := Aside0.mk (Kd.R_over' RA9.out hty (by decide) hg_); have hG20 : Aside0 (G < w20.heap.size) := ⟨by have h_ := hg_.size; have h2_ := HSA.out; have h3_ := hG9.out; omega⟩; obtain ⟨A20, c20, rfl⟩ := Kd.R_slice V20.out; clear hv hb20 hg_ hty) | ((with_reducible refine gate_builtin (b := .append) (xs := #[.tmp 104, .tmp 106]) rfl ?_); at_builtin; refine Kd.R_append (Kd.slice 3 (Kd.int .i64)) (w0 := w20) w.heap.size rfl (.tmp 104) (.tmp 106) 86 25 (.slice none 0 0) 24 rfl Try.underlying86 info_ints rfl (by decide) (by omega) (.slice A20 r.length c20) r va [.slice A9 va.length c9] (fun k => k ≠ G) (fun k => k ≠ G ∧ some k ≠ (.slice A20 r.length c20 : Value).ownBlock) (by first | rfl | (go_simp; done) | (go_simp; rfl)) (by first | (go_simp; done) | (go_simp; rfl)) ?aP (fun _ hk => hk) ?aF ?aO ?aB ?aS ?aL ?_; (case aP => exact ⟨_, rfl, Kd.R_apart' RV20.out (Kd.R_typed V20.out) (by decide)⟩); (case aF => intro k hk; have hsz_ := hG20.out; omega); (case aO => exact V20.out); (case aB => exact Below.refl _ _); (case aS => exact L20.out.size); (case aL => omega); intro v30 w30 hv _ hg_ _; have V30 := Aside0.mk hv; have B30 := Aside0.mk (Bd.grown B20.out hg_ (Kd.R_typed V20.out) (by decide) (by decide)); have K30 := Aside0.mk (blk_typed K20.out hg_ (Kd.R_typed V20.out) (by decide)); have L30 := Aside0.mk (L20.out.grown hg_ L20.out.size (fun k e_ => own_ge V20.out k e_)); clear hv hg_))
     go_roundg (l2.length - (kk + 1))
     case measure => omega
     case rel => exact ⟨kk + 1, _, _, by omega, by omega, by go_num, HREST, B30, V30, K30, L30⟩
    ·clear hl8
     go_wp2_with (first | (go_at_call 61; have _t := tokN; refine (spec_l2Need.calls 1 (19) 1 2 2 _ rfl).mono ?_; rintro e w8 ⟨rfl, hd⟩; have hb8 := hd.below; have B8 := Aside0.mk ((HB.out.alloc (.cells #[.int .i64 (19), .int .u64 nn] 63)).below hb8); have V8 := Aside0.mk (Kd.R_below (Kd.R_alloc HV.out (.cells #[.int .i64 (19), .int .u64 nn] 63)) hb8); have K8 := Aside0.mk (blk_below (blk_alloc HK.out (.cells #[.int .i64 (19), .int .u64 nn] 63)) hb8); have L8 := Aside0.mk (below_step (below_alloc HL.out (.cells #[.int .i64 (19), .int .u64 nn] 63)) hb8); have X8 : Aside0 (w8.heap[X]? = some (.cells #[.int .i64 (19), .int .u64 nn] 63 (0, 0))) := ⟨by rw [← HXe.out]; exact blk_below (heap_alloc_new wr _) hb8⟩; have hx80 : w8.cell? ⟨X, 0, none⟩ = some (.int .i64 (19)) := (blk_cell X8.out 0).trans rfl; have hx81 : w8.cell? ⟨X, 1, none⟩ = some (.int .u64 nn) := (blk_cell X8.out 1).trans rfl; have hsz8 : X < w8.heap.size := blk_lt X8.out; have hG8 : Aside0 (G < w8.heap.size) := ⟨by obtain ⟨_, hG_, _⟩ := B8.out; exact blk_lt hG_⟩; rw [HXe.out]; clear tokN hd hb8; obtain ⟨A0, c0, hcl0, hcc0, RA8⟩ := R_rowLast V8.out; have RA := Aside0.mk RA8; clear RA8) | (go_at_call 63; have _t := tok1; refine (spec_l4Build_nots.calls G w.heap.size r1 (.slice none 0 0) gk A0 c0 a w8 L8.out.size B8.out (Fr.C_own RA.out (by decide) (fun _ hk => hk)) hi0 (by omega) (by omega) (by omega)).mono ?_; rintro e w9 ⟨v9, rfl, hbd, hv, hf⟩; rw [HGA.out] at hbd; rw [HVA.out] at hv; obtain ⟨A9, c9, rfl⟩ := Kd.R_slice hv; have B9 := Aside0.mk hbd; have V9 := Aside0.mk (Fr.R hf V8.out (by decide) (fun _ hk => hk)); have K9 := Aside0.mk (blk_fr K8.out hf hKneG (by decide)); have hle9 := L8.out.size; have L9 := Aside0.mk (L8.out.trans (hf.below hGw (Nat.le_refl _) hle9)); have hG9 : Aside0 (G < w9.heap.size) := ⟨Nat.lt_of_lt_of_le hG8.out hf.size⟩; have RV9 := Aside0.mk (Kd.R_lower hv hle9); have hcap9 : r.length + 1 ≤ c8 := (Kd.R_reads' V9.out).2.1; obtain ⟨i0_, hi0_, _, _, _⟩ := info_parts info_ints; have hcut := cut_to (P := Try.prog) 86 25 .i64 Try.underlying86 hi0_ (some ⟨g8, 0, none⟩) (r.length + 1) c8 ((r.length : Nat) : Int) (by omega) (by omega) hcap9; rw [Int.toNat_natCast] at hcut; have VT := Aside0.mk (show Kd.R (Kd.slice 3 (Kd.int .i64)) 25 (w9.alloc (.cells #[] 25)) w.heap.size (fun k => k ≠ G ∧ k < w9.heap.size) (.slice (some ⟨g8, 0, none⟩) (r.length) c8) (r) from Kd.R_alloc (Kd.R_mono (R_till (show Kd.R (Kd.slice 3 (Kd.int .i64)) 25 w9 w.heap.size (fun k => k ≠ G) (.slice (some ⟨g8, 0, none⟩) r.length c8) r from by have h_ := Kd.R_take V9.out (m := r.length) (by simp); rwa [List.take_left] at h_)) (fun _ hk => hk)) _); have E9 := Aside0.mk (Kd.R_lower (R_freshL (Kd.slice 3 (Kd.int .i64)) w9 25 (fun k => k ≠ G) rfl (Nat.ne_of_gt hG9.out)) L9.out.size); have BA := Aside0.mk (B9.out.alloc (.cells #[] 25)); have KA := Aside0.mk (blk_alloc K9.out (.cells #[] 25)); have LA := Aside0.mk (below_alloc L9.out (.cells #[] 25)); have RA9 := Aside0.mk (Kd.R_alloc RV9.out (.cells #[] 25)); have hsz9 : (w9.alloc (.cells #[] 25)).heap.size = w9.heap.size + 1 := (by simp); have HSA := Aside0.mk hsz9; clear hsz9 hi0_; clear tok1 hbd hv hf hx80 hx81) | ((with_reducible refine gate_builtin (b := .append) (xs := #[.tmp 97, .tmp 103]) rfl ?_); at_builtin; refine Kd.R_append_rows (Kd.slice 3 (Kd.int .i64)) (Rr := (Kd.slice 3 (Kd.int .i64)).M (w9.alloc (.cells #[] 25)) w.heap.size (fun k => k ≠ G ∧ k < w9.heap.size)) (w0 := w) w.heap.size rfl (.tmp 97) (.tmp 103) 86 25 (.slice none 0 0) 24 rfl Try.underlying86 info_ints rfl (by decide) (by omega) (.slice (some ⟨w9.heap.size, 0, none⟩) 0 0) ([] : List (List Int)) (r) (some ⟨g8, 0, none⟩) (r.length) c8 (fun k => k ≠ G) (fun k => k ≠ G ∧ k < w9.heap.size) (by first | rfl | (go_simp; done) | (go_simp; rfl)) (by first | rfl | (go_simp; done) | (go_simp; rfl)) E9.out (by have h_ := R_rowsM VT.out; rwa [show (r).length = r.length from by first | rfl | exact HM.out | simp] at h_) (fun _ _ h_ => h_) (fun k hk => ⟨hk.1, own_ne_new hk.2⟩) ?aF LA.out ?aS ?aL ?_; (case aF => intro k hk; have hsz_ := hG9.out; have := HSA.out; omega); (case aS => exact LA.out.size); (case aL => first | omega | (simp; omega)); intro v20 w20 hv hb20 hg_ _; have hty := Kd.R_typed E9.out; have V20 := Aside0.mk (show Kd.R _ _ w20 w.heap.size (fun k => k ≠ G) v20 (r) from hv); have B20 := Aside0.mk (Bd.grown BA.out hg_ hty (by decide) (by decide)); have K20 := Aside0.mk (blk_typed KA.out hg_ hty (by decide)); have L20 := Aside0.mk hb20; have RV20 := Aside0.mk (Kd.R_over' RA9.out hty (by decide) hg_); have hG20 : Aside0 (G < w20.heap.size) := ⟨by have h_ := hg_.size; have h2_ := HSA.out; have h3_ := hG9.out; omega⟩; obtain ⟨A20, c20, rfl⟩ := Kd.R_slice V20.out; clear hv hb20 hg_ hty) | ((with_reducible refine gate_builtin (b := .append) (xs := #[.tmp 104, .tmp 106]) rfl ?_); at_builtin; refine Kd.R_append (Kd.slice 3 (Kd.int .i64)) (w0 := w20) w.heap.size rfl (.tmp 104) (.tmp 106) 86 25 (.slice none 0 0) 24 rfl Try.underlying86 info_ints rfl (by decide) (by omega) (.slice A20 r.length c20) r va [.slice A9 va.length c9] (fun k => k ≠ G) (fun k => k ≠ G ∧ some k ≠ (.slice A20 r.length c20 : Value).ownBlock) (by first | rfl | (go_simp; done) | (go_simp; rfl)) (by first | (go_simp; done) | (go_simp; rfl)) ?aP (fun _ hk => hk) ?aF ?aO ?aB ?aS ?aL ?_; (case aP => exact ⟨_, rfl, Kd.R_apart' RV20.out (Kd.R_typed V20.out) (by decide)⟩); (case aF => intro k hk; have hsz_ := hG20.out; omega); (case aO => exact V20.out); (case aB => exact Below.refl _ _); (case aS => exact L20.out.size); (case aL => omega); intro v30 w30 hv _ hg_ _; have V30 := Aside0.mk hv; have B30 := Aside0.mk (Bd.grown B20.out hg_ (Kd.R_typed V20.out) (by decide) (by decide)); have K30 := Aside0.mk (blk_typed K20.out hg_ (Kd.R_typed V20.out) (by decide)); have L30 := Aside0.mk (L20.out.grown hg_ L20.out.size (fun k e_ => own_ge V20.out k e_)); clear hv hg_))
     go_roundg (l2.length - (kk + 1))
     case measure => omega
     case rel => exact ⟨kk + 1, _, _, by omega, by omega, by go_num, HREST, B30, V30, K30, L30⟩
   ·have hl8 : (r ++ [a, b]).length = r.length + 2 := by simp
    obtain ⟨g8, cp8, e, _, _, _⟩ := Kd.R_form HV.out (by omega)
    cases e
    rw [hl8] at HV ⊢
    have hrl : r.length ≤ 1000 := by omega
    obtain ⟨hn1, hn2, hn13, hn19, hn20⟩ := twoOp_ne hop
    have q1 : (op == 1) = false := beq_eq_false_iff_ne.mpr hn1
    have q2 : (op == 2) = false := beq_eq_false_iff_ne.mpr hn2
    have q13 : (op == 13) = false := beq_eq_false_iff_ne.mpr hn13
    have q19 : (op == 19) = false := beq_eq_false_iff_ne.mpr hn19
    have q20 : (op == 20) = false := beq_eq_false_iff_ne.mpr hn20
    have d1 : decide (op = 1) = false := decide_eq_false hn1
    have d2 : decide (op = 2) = false := decide_eq_false hn2
    have d13 : decide (op = 13) = false := decide_eq_false hn13
    have d19 : decide (op = 19) = false := decide_eq_false hn19
    have d20 : decide (op = 20) = false := decide_eq_false hn20
    obtain ⟨np, no, hneed⟩ := need_two hop
    have HOP := Aside0.mk hop
    have HNE := Aside0.mk hneed
    clear hop hneed
    obtain ⟨ga, hga⟩ : ∃ q, (twoN r1 op a b gk).1 = q := ⟨_, rfl⟩
    obtain ⟨va, hva⟩ : ∃ q, (twoN r1 op a b gk).2 = q := ⟨_, rfl⟩
    have hrest := HREST.out
    rw [hga, hva] at hrest
    replace HREST := Aside0.mk hrest
    have HGA := Aside0.mk hga
    have HVA := Aside0.mk hva
    have tok1 : True := trivial
    clear hrest hga hva
    obtain ⟨m, hm⟩ : ∃ m, r.length = m := ⟨_, rfl⟩
    rw [hm] at HV hrl ⊢
    have HM := Aside0.mk hm
    have hz1 : (m : Int) + 2 - 1 = (m : Int) + 1 := by omega
    have hz2 : (m : Int) + 1 - 1 = (m : Int) := by omega
    have hz6 : (m : Int) + 2 - 2 = (m : Int) := by omega
    have HBL := Aside0.mk hbl
    clear hl8 hm hbl
    go_wp2_with (go_at_call 61; have _t := tokN; refine (spec_l2Need.calls 1 (op) 2 np no _ HNE.out).mono ?_; rintro e w8 ⟨rfl, hd⟩; have hb8 := hd.below; have B8 := Aside0.mk ((HB.out.alloc (.cells #[.int .i64 (op), .int .u64 nn] 63)).below hb8); have V8 := Aside0.mk (Kd.R_below (Kd.R_alloc HV.out (.cells #[.int .i64 (op), .int .u64 nn] 63)) hb8); have K8 := Aside0.mk (blk_below (blk_alloc HK.out (.cells #[.int .i64 (op), .int .u64 nn] 63)) hb8); have L8 := Aside0.mk (below_step (below_alloc HL.out (.cells #[.int .i64 (op), .int .u64 nn] 63)) hb8); have X8 : Aside0 (w8.heap[X]? = some (.cells #[.int .i64 (op), .int .u64 nn] 63 (0, 0))) := ⟨by rw [← HXe.out]; exact blk_below (heap_alloc_new wr _) hb8⟩; have hx80 : w8.cell? ⟨X, 0, none⟩ = some (.int .i64 (op)) := (blk_cell X8.out 0).trans rfl; have hx81 : w8.cell? ⟨X, 1, none⟩ = some (.int .u64 nn) := (blk_cell X8.out 1).trans rfl; have hsz8 : X < w8.heap.size := blk_lt X8.out; have hG8 : Aside0 (G < w8.heap.size) := ⟨by obtain ⟨_, hG_, _⟩ := B8.out; exact blk_lt hG_⟩; rw [HXe.out]; clear tokN hd hb8; obtain ⟨A0, c0, A1, c1, hcl0, hcc0, RA8, hcl1, hcc1, RB8⟩ := R_rowLast2 V8.out; rw [HM.out] at hcl0 hcl1; have RA := Aside0.mk RA8; have RB := Aside0.mk RB8; clear RA8 RB8)
    have hb0 : (0 : Int) ≤ (m : Int) := Int.natCast_nonneg _
    have hb1 : (m : Int) < ((m + 2 : Nat) : Int) := by omega
    have hb2 : (0 : Int) ≤ (m : Int) + 1 := by omega
    have hb3 : (m : Int) + 1 < ((m + 2 : Nat) : Int) := by omega
    have hb5 : (m : Int) < (m : Int) + 2 := by omega
    have hb6 : (m : Int) + 1 < (m : Int) + 2 := by omega
    have hz3 : IntKind.i64.wrap (m : Int) = (m : Int) := IntWalk.i64_in _ (by omega)
    have hz4 : ((m : Int) + 1).toNat = m + 1 := by omega
    go_still_tail 12, (by kernel_rfl)
    change wpList _ _ _ _ _ w8.drew
    have BD8 := Aside0.mk B8.out.drew
    have VD8 := Aside0.mk (Kd.R_drew V8.out)
    have KD8 := Aside0.mk (blk_drew K8.out)
    have LD8 := Aside0.mk (below_drew L8.out)
    have RAD := Aside0.mk (Kd.R_drew RA.out)
    have RBD := Aside0.mk (Kd.R_drew RB.out)
    have hGD : Aside0 (G < w8.drew.heap.size) := ⟨hG8.out⟩
    clear hx80 hx81 hcl0 hcl1 B8 V8 K8 L8 RA RB hG8 hsz8 X8
    generalize w8.drew = wd8 at BD8 VD8 KD8 LD8 RAD RBD hGD ⊢
    clear hz3
    go_wp2_with (first | (go_at_call 64; have _t := tok1; refine (spec_l4Build_two.calls G w.heap.size r1 (.slice none 0 0) gk op A0 A1 c0 c1 a b wd8 HOP.out LD8.out.size BD8.out (Fr.C_own RAD.out (by decide) (fun _ hk => hk)) (Fr.C_own RBD.out (by decide) (fun _ hk => hk)) hi0 (by omega) (by omega) (by omega) (by omega) hal1 hcc0 hcc1 HBL.out).mono ?_; rintro e w9 ⟨v9, rfl, hbd, hv, hf⟩; rw [HGA.out] at hbd; rw [HVA.out] at hv; obtain ⟨A9, c9, rfl⟩ := Kd.R_slice hv; have B9 := Aside0.mk hbd; have V9 := Aside0.mk (Fr.R hf VD8.out (by decide) (fun _ hk => hk)); have K9 := Aside0.mk (blk_fr KD8.out hf hKneG (by decide)); have hle9 := LD8.out.size; have L9 := Aside0.mk (LD8.out.trans (hf.below hGw (Nat.le_refl _) hle9)); have hG9 : Aside0 (G < w9.heap.size) := ⟨Nat.lt_of_lt_of_le hGD.out hf.size⟩; have RV9 := Aside0.mk (Kd.R_lower hv hle9); have hcap9 : m + 2 ≤ c8 := (Kd.R_reads' V9.out).2.1; obtain ⟨i0_, hi0_, _, _, _⟩ := info_parts info_ints; have hcut := cut_to (P := Try.prog) 86 25 .i64 Try.underlying86 hi0_ (some ⟨g8, 0, none⟩) (m + 2) c8 ((m : Nat) : Int) (by omega) (by omega) hcap9; rw [Int.toNat_natCast] at hcut; have VT := Aside0.mk (show Kd.R (Kd.slice 3 (Kd.int .i64)) 25 (w9.alloc (.cells #[] 25)) w.heap.size (fun k => k ≠ G ∧ k < w9.heap.size) (.slice (some ⟨g8, 0, none⟩) (m) c8) (r) from Kd.R_alloc (Kd.R_mono (R_till (show Kd.R (Kd.slice 3 (Kd.int .i64)) 25 w9 w.heap.size (fun k => k ≠ G) (.slice (some ⟨g8, 0, none⟩) m c8) r from by have h_ := Kd.R_take V9.out (m := m) (by rw [← HM.out]; simp); rwa [← HM.out, List.take_left, HM.out] at h_)) (fun _ hk => hk)) _); have E9 := Aside0.mk (Kd.R_lower (R_freshL (Kd.slice 3 (Kd.int .i64)) w9 25 (fun k => k ≠ G) rfl (Nat.ne_of_gt hG9.out)) L9.out.size); have BA := Aside0.mk (B9.out.alloc (.cells #[] 25)); have KA := Aside0.mk (blk_alloc K9.out (.cells #[] 25)); have LA := Aside0.mk (below_alloc L9.out (.cells #[] 25)); have RA9 := Aside0.mk (Kd.R_alloc RV9.out (.cells #[] 25)); have hsz9 : (w9.alloc (.cells #[] 25)).heap.size = w9.heap.size + 1 := (by simp); have HSA := Aside0.mk hsz9; clear hsz9 hi0_; clear tok1 hbd hv hf) | ((with_reducible refine gate_builtin (b := .append) (xs := #[.tmp 97, .tmp 103]) rfl ?_); at_builtin; refine Kd.R_append_rows (Kd.slice 3 (Kd.int .i64)) (Rr := (Kd.slice 3 (Kd.int .i64)).M (w9.alloc (.cells #[] 25)) w.heap.size (fun k => k ≠ G ∧ k < w9.heap.size)) (w0 := w) w.heap.size rfl (.tmp 97) (.tmp 103) 86 25 (.slice none 0 0) 24 rfl Try.underlying86 info_ints rfl (by decide) (by omega) (.slice (some ⟨w9.heap.size, 0, none⟩) 0 0) ([] : List (List Int)) (r) (some ⟨g8, 0, none⟩) (m) c8 (fun k => k ≠ G) (fun k => k ≠ G ∧ k < w9.heap.size) (by first | rfl | (go_simp; done) | (go_simp; rfl)) (by first | rfl | (go_simp; done) | (go_simp; rfl)) E9.out (by have h_ := R_rowsM VT.out; rwa [show (r).length = m from by first | rfl | exact HM.out | simp] at h_) (fun _ _ h_ => h_) (fun k hk => ⟨hk.1, own_ne_new hk.2⟩) ?aF LA.out ?aS ?aL ?_; (case aF => intro k hk; have hsz_ := hG9.out; have := HSA.out; omega); (case aS => exact LA.out.size); (case aL => (have := HM.out; first | omega | (simp; omega))); intro v20 w20 hv hb20 hg_ _; have hty := Kd.R_typed E9.out; have V20 := Aside0.mk (show Kd.R _ _ w20 w.heap.size (fun k => k ≠ G) v20 (r) from hv); have B20 := Aside0.mk (Bd.grown BA.out hg_ hty (by decide) (by decide)); have K20 := Aside0.mk (blk_typed KA.out hg_ hty (by decide)); have L20 := Aside0.mk hb20; have RV20 := Aside0.mk (Kd.R_over' RA9.out hty (by decide) hg_); have hG20 : Aside0 (G < w20.heap.size) := ⟨by have h_ := hg_.size; have h2_ := HSA.out; have h3_ := hG9.out; omega⟩; obtain ⟨A20, c20, rfl⟩ := Kd.R_slice V20.out; clear hv hb20 hg_ hty) | ((with_reducible refine gate_builtin (b := .append) (xs := #[.tmp 104, .tmp 106]) rfl ?_); at_builtin; refine Kd.R_append (Kd.slice 3 (Kd.int .i64)) (w0 := w20) w.heap.size rfl (.tmp 104) (.tmp 106) 86 25 (.slice none 0 0) 24 rfl Try.underlying86 info_ints rfl (by decide) (by omega) (.slice A20 r.length c20) r va [.slice A9 va.length c9] (fun k => k ≠ G) (fun k => k ≠ G ∧ some k ≠ (.slice A20 r.length c20 : Value).ownBlock) (by first | rfl | (go_simp; done) | (go_simp; rfl)) (by first | (go_simp; done) | (go_simp; rfl)) ?aP (fun _ hk => hk) ?aF ?aO ?aB ?aS ?aL ?_; (case aP => exact ⟨_, rfl, Kd.R_apart' RV20.out (Kd.R_typed V20.out) (by decide)⟩); (case aF => intro k hk; have hsz_ := hG20.out; omega); (case aO => exact V20.out); (case aB => exact Below.refl _ _); (case aS => exact L20.out.size); (case aL => (have := HM.out; omega)); intro v30 w30 hv _ hg_ _; have V30 := Aside0.mk hv; have B30 := Aside0.mk (Bd.grown B20.out hg_ (Kd.R_typed V20.out) (by decide) (by decide)); have K30 := Aside0.mk (blk_typed K20.out hg_ (Kd.R_typed V20.out) (by decide)); have L30 := Aside0.mk (L20.out.grown hg_ L20.out.size (fun k e_ => own_ge V20.out k e_)); clear hv hg_))
    go_roundg (l2.length - (kk + 1))
    case measure => omega
    case rel => exact ⟨kk + 1, _, _, by omega, by omega, by go_num, HREST, B30, V30, K30, L30⟩
  ·have hltz : ¬ (kk : Int) < (l2.length : Int) := by omega
   obtain rfl : kk = l2.length := by omega
   have hfin := HGF.out
   rw [List.drop_length] at hfin
   obtain ⟨rfl, rfl⟩ : gk = r2 ∧ stk = r3 :: rest := by injection hfin with hfin; injection hfin with h1 h2; exact ⟨h1, h2⟩
   obtain ⟨g8, c8, rfl, _, _, _⟩ := Kd.R_form HV.out (by simp)
   obtain ⟨a8, A0, c0, e, hcl0, hcc0, hR0⟩ := R_rowAt HV.out 0 (by simp)
   cases e
   rw [add_plain] at hcl0
   have h00 : (r3 :: rest)[0]'(by simp) = r3 := rfl
   rw [h00] at hcl0 hcc0 hR0
   have hln : (r3 :: rest).length = rest.length + 1 := rfl
   rw [hln] at HV ⊢
   have R0 := Aside0.mk hR0
   obtain ⟨gv, hG9, hR9⟩ := HB.out
   obtain ⟨Ag, cg, rfl⟩ := Kd.R_slice hR9
   have G9 := Aside0.mk hG9
   have R9 := Aside0.mk hR9
   have hg0 : wr.cell? ⟨G, 0, none⟩ = some (.int .i64 r1) := (blk_cell hG9 0).trans rfl
   have hg1 : wr.cell? ⟨G, 1, none⟩ = some (.slice Ag gk.length cg) := (blk_cell hG9 1).trans rfl
   have hg2 : wr.cell? ⟨G, 2, none⟩ = some (.slice none 0 0) := (blk_cell hG9 2).trans rfl
   have hgf := blk_frozen hG9 2
   have hk0 : wr.cell? ⟨K, 0, none⟩ = some (.int .i64 0) := (blk_cell HK.out 0).trans rfl
   have hk1 : wr.cell? ⟨K, 1, none⟩ = some (.slice none 0 0) := (blk_cell HK.out 1).trans rfl
   have hk2 : wr.cell? ⟨K, 2, none⟩ = some (.slice none 0 0) := (blk_cell HK.out 2).trans rfl
   have hkf0 := blk_frozen HK.out 0
   have hkf1 := blk_frozen HK.out 1
   have hkf2 := blk_frozen HK.out 2
   clear hfin HGF hR0 h00 hln hG9 hR9
   go_wp2
   refine bodyPost_ret (v := .agg #[.int .i64 r1, .slice Ag gk.length cg, .slice A0 r3.length c0]) (by simp [results, Try.results35, go_sem, hk0, hk1, hk2]) rfl ⟨_, _, rfl, ?_, ?_, ?_⟩
   ·exact Kd.R_set (Kd.R_set (Kd.R_set (Kd.R_set R9.out G9.out (by decide) 2 _) (blk_far HK.out (p := ⟨G, 2, none⟩) hKneG _) (by decide) 0 _) (blk_put (blk_far HK.out (p := ⟨G, 2, none⟩) hKneG _) 0 _ rfl) (by decide) 1 _) (blk_put (blk_put (blk_far HK.out (p := ⟨G, 2, none⟩) hKneG _) 0 _ rfl) 1 _ rfl) (by decide) 2 _
   ·exact Kd.R_mono (Kd.R_set (Kd.R_set (Kd.R_set (Kd.R_set R0.out G9.out (by decide) 2 _) (blk_far HK.out (p := ⟨G, 2, none⟩) hKneG _) (by decide) 0 _) (blk_put (blk_far HK.out (p := ⟨G, 2, none⟩) hKneG _) 0 _ rfl) (by decide) 1 _) (blk_put (blk_put (blk_far HK.out (p := ⟨G, 2, none⟩) hKneG _) 0 _ rfl) 1 _ rfl) (by decide) 2 _) (fun _ _ => trivial)
   ·exact (((HL.out.setCell (p := ⟨G, 2, none⟩) hGw _).setCell (p := ⟨K, 0, none⟩) hszK _).setCell (p := ⟨K, 1, none⟩) hszK _).setCell (p := ⟨K, 2, none⟩) hszK _

end Go.Proofs.Ytckgeanmljmhfaa.X
