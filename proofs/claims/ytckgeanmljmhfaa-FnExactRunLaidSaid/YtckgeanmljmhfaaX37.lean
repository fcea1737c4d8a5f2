/- Each Go function as a Lean function, with the proof that the call comes to just its answer; or a law's row out of its pure statement. Conditions: the arguments are of their kinds. Written by this session's program wip/xp/xp.sh. -/
import Derived.Test.YtckgeanmljmhfaaX0
import Derived.Test.YtckgeanmljmhfaaX4
import Derived.Test.YtckgeanmljmhfaaX15
import Derived.Test.YtckgeanmljmhfaaX25
import Derived.Test.YtckgeanmljmhfaaX34
import Derived.StillTailTactics
namespace Go.Proofs.Ytckgeanmljmhfaa.X
open Go.RowKit Go.Proofs.YtckgeanmljmhfaaW.PrintWords Go.Proofs.YtckgeanmljmhfaaW.PrintLast Go.Proofs.YtckgeanmljmhfaaW.PrintMore
attribute [local go_sem] max2_int min2_int max_two min_two max_three min_three max_four min_four   -- for this text's walks alone
set_option linter.unusedVariables false
set_option linter.unusedSimpArgs false

-- HAND
/-! ### impl_Circuit_putTwo: function 77 -/
-- IMPORT Derived.StillTailTactics
set_option maxHeartbeats 16000000 in
set_option maxRecDepth 100000 in
/-- The gates of the operator 8. -/
theorem impl_Circuit_putTwo_8.calls (G base : Nat) (ins : Int) (ov : Value) (g : List S93) (A1 A2 : Option Addr) (c1 c2 : Nat) (a b : List Int) (w : World) (hb : base ≤ w.heap.size) (HBD : Bd 27 G base ins ov w g) (ha : (∀ W', Fr 93 G base w W' → Kd.C (Kd.int .i64) W' A1 a.length a)) (hb2 : (∀ W', Fr 93 G base w W' → Kd.C (Kd.int .i64) W' A2 b.length b)) (hi0 : 0 ≤ ins) (hi1 : ins ≤ 1000000) (hl : g.length ≤ 900000) (hlm : g.length ≤ 800000) (hal : a.length ≤ 50) (hal1 : 1 ≤ a.length) (hc1 : a.length ≤ c1) (hc2 : b.length ≤ c2) (hbl : b.length = a.length) :
 Calls Try.prog 77 #[.pointer (some ⟨G, 0, none⟩), .int .i64 8, .slice A1 a.length c1, .slice A2 b.length c2] w fun e w' => ∃ v : Value, e = .returned v ∧ Bd 27 G base ins ov w' (twoN ins 8 a b g).1 ∧ Kd.R (Kd.int .i64) 3 w' w.heap.size (fun k => k ≠ G) v (twoN ins 8 a b g).2 ∧ Fr 93 G base w w' := by
 have hGlt : G < w.heap.size := by obtain ⟨gv, hG, _⟩ := HBD; exact blk_lt hG
 have HBD0 := Aside0.mk HBD
 have Hha := Aside0.mk ha
 have Hhb2 := Aside0.mk hb2
 have HBL := Aside0.mk hbl
 clear HBD ha hb2 hbl
 have hu1 := Try.underlying25
 have HT := Aside0.mk (show twoN ins 8 a b g = emitN ins (fun i => ⟨3, rd a i, rd b i⟩) g a.length from by unfold twoN; simp)
 have tok1 : True := trivial
 go_enter Try.func77, Try.ntmps77
 go_wp2_with (go_at_call 102; have _t := tok1; refine (impl_Circuit_putEach.calls G base ins ov g 3 A1 A2 c1 c2 a b w hb HBD0.out Hha.out Hhb2.out hi0 hi1 hl (by omega) HBL.out).mono ?_; rintro e w1 ⟨v1, rfl, hbd, hv, hf⟩; have B1 := Aside0.mk hbd; have V1 := Aside0.mk hv; have F1 := Aside0.mk hf; clear tok1 hbd hv hf)
 go_ret
 rw [HT.out]
 exact ⟨_, rfl, B1.out, V1.out, F1.out⟩

set_option maxHeartbeats 16000000 in
set_option maxRecDepth 100000 in
/-- The gates of the operator 17. -/
theorem impl_Circuit_putTwo_17.calls (G base : Nat) (ins : Int) (ov : Value) (g : List S93) (A1 A2 : Option Addr) (c1 c2 : Nat) (a b : List Int) (w : World) (hb : base ≤ w.heap.size) (HBD : Bd 27 G base ins ov w g) (ha : (∀ W', Fr 93 G base w W' → Kd.C (Kd.int .i64) W' A1 a.length a)) (hb2 : (∀ W', Fr 93 G base w W' → Kd.C (Kd.int .i64) W' A2 b.length b)) (hi0 : 0 ≤ ins) (hi1 : ins ≤ 1000000) (hl : g.length ≤ 900000) (hlm : g.length ≤ 800000) (hal : a.length ≤ 50) (hal1 : 1 ≤ a.length) (hc1 : a.length ≤ c1) (hc2 : b.length ≤ c2) (hbl : b.length = a.length) :
 Calls Try.prog 77 #[.pointer (some ⟨G, 0, none⟩), .int .i64 17, .slice A1 a.length c1, .slice A2 b.length c2] w fun e w' => ∃ v : Value, e = .returned v ∧ Bd 27 G base ins ov w' (twoN ins 17 a b g).1 ∧ Kd.R (Kd.int .i64) 3 w' w.heap.size (fun k => k ≠ G) v (twoN ins 17 a b g).2 ∧ Fr 93 G base w w' := by
 have hGlt : G < w.heap.size := by obtain ⟨gv, hG, _⟩ := HBD; exact blk_lt hG
 have HBD0 := Aside0.mk HBD
 have Hha := Aside0.mk ha
 have Hhb2 := Aside0.mk hb2
 have HBL := Aside0.mk hbl
 clear HBD ha hb2 hbl
 have hu1 := Try.underlying25
 have HT := Aside0.mk (show twoN ins 17 a b g = emitN ins (fun i => ⟨3, rd a i, rd b i⟩) g a.length from by unfold twoN; simp)
 have tok1 : True := trivial
 go_enter Try.func77, Try.ntmps77
 go_wp2_with (go_at_call 102; have _t := tok1; refine (impl_Circuit_putEach.calls G base ins ov g 3 A1 A2 c1 c2 a b w hb HBD0.out Hha.out Hhb2.out hi0 hi1 hl (by omega) HBL.out).mono ?_; rintro e w1 ⟨v1, rfl, hbd, hv, hf⟩; have B1 := Aside0.mk hbd; have V1 := Aside0.mk hv; have F1 := Aside0.mk hf; clear tok1 hbd hv hf)
 go_ret
 rw [HT.out]
 exact ⟨_, rfl, B1.out, V1.out, F1.out⟩

set_option maxHeartbeats 16000000 in
set_option maxRecDepth 100000 in
/-- The gates of the operator 9. -/
theorem impl_Circuit_putTwo_9.calls (G base : Nat) (ins : Int) (ov : Value) (g : List S93) (A1 A2 : Option Addr) (c1 c2 : Nat) (a b : List Int) (w : World) (hb : base ≤ w.heap.size) (HBD : Bd 27 G base ins ov w g) (ha : (∀ W', Fr 93 G base w W' → Kd.C (Kd.int .i64) W' A1 a.length a)) (hb2 : (∀ W', Fr 93 G base w W' → Kd.C (Kd.int .i64) W' A2 b.length b)) (hi0 : 0 ≤ ins) (hi1 : ins ≤ 1000000) (hl : g.length ≤ 900000) (hlm : g.length ≤ 800000) (hal : a.length ≤ 50) (hal1 : 1 ≤ a.length) (hc1 : a.length ≤ c1) (hc2 : b.length ≤ c2) (hbl : b.length = a.length) :
 Calls Try.prog 77 #[.pointer (some ⟨G, 0, none⟩), .int .i64 9, .slice A1 a.length c1, .slice A2 b.length c2] w fun e w' => ∃ v : Value, e = .returned v ∧ Bd 27 G base ins ov w' (twoN ins 9 a b g).1 ∧ Kd.R (Kd.int .i64) 3 w' w.heap.size (fun k => k ≠ G) v (twoN ins 9 a b g).2 ∧ Fr 93 G base w w' := by
 have hGlt : G < w.heap.size := by obtain ⟨gv, hG, _⟩ := HBD; exact blk_lt hG
 have HBD0 := Aside0.mk HBD
 have Hha := Aside0.mk ha
 have Hhb2 := Aside0.mk hb2
 have HBL := Aside0.mk hbl
 clear HBD ha hb2 hbl
 have hu1 := Try.underlying25
 have HT := Aside0.mk (show twoN ins 9 a b g = emitN ins (fun i => ⟨4, rd a i, rd b i⟩) g a.length from by unfold twoN; simp)
 have tok1 : True := trivial
 go_enter Try.func77, Try.ntmps77
 go_wp2_with (go_at_call 102; have _t := tok1; refine (impl_Circuit_putEach.calls G base ins ov g 4 A1 A2 c1 c2 a b w hb HBD0.out Hha.out Hhb2.out hi0 hi1 hl (by omega) HBL.out).mono ?_; rintro e w1 ⟨v1, rfl, hbd, hv, hf⟩; have B1 := Aside0.mk hbd; have V1 := Aside0.mk hv; have F1 := Aside0.mk hf; clear tok1 hbd hv hf)
 go_ret
 rw [HT.out]
 exact ⟨_, rfl, B1.out, V1.out, F1.out⟩

set_option maxHeartbeats 16000000 in
set_option maxRecDepth 100000 in
/-- The gates of the operator 18. -/
theorem impl_Circuit_putTwo_18.calls (G base : Nat) (ins : Int) (ov : Value) (g : List S93) (A1 A2 : Option Addr) (c1 c2 : Nat) (a b : List Int) (w : World) (hb : base ≤ w.heap.size) (HBD : Bd 27 G base ins ov w g) (ha : (∀ W', Fr 93 G base w W' → Kd.C (Kd.int .i64) W' A1 a.length a)) (hb2 : (∀ W', Fr 93 G base w W' → Kd.C (Kd.int .i64) W' A2 b.length b)) (hi0 : 0 ≤ ins) (hi1 : ins ≤ 1000000) (hl : g.length ≤ 900000) (hlm : g.length ≤ 800000) (hal : a.length ≤ 50) (hal1 : 1 ≤ a.length) (hc1 : a.length ≤ c1) (hc2 : b.length ≤ c2) (hbl : b.length = a.length) :
 Calls Try.prog 77 #[.pointer (some ⟨G, 0, none⟩), .int .i64 18, .slice A1 a.length c1, .slice A2 b.length c2] w fun e w' => ∃ v : Value, e = .returned v ∧ Bd 27 G base ins ov w' (twoN ins 18 a b g).1 ∧ Kd.R (Kd.int .i64) 3 w' w.heap.size (fun k => k ≠ G) v (twoN ins 18 a b g).2 ∧ Fr 93 G base w w' := by
 have hGlt : G < w.heap.size := by obtain ⟨gv, hG, _⟩ := HBD; exact blk_lt hG
 have HBD0 := Aside0.mk HBD
 have Hha := Aside0.mk ha
 have Hhb2 := Aside0.mk hb2
 have HBL := Aside0.mk hbl
 clear HBD ha hb2 hbl
 have hu1 := Try.underlying25
 have HT := Aside0.mk (show twoN ins 18 a b g = emitN ins (fun i => ⟨4, rd a i, rd b i⟩) g a.length from by unfold twoN; simp)
 have tok1 : True := trivial
 go_enter Try.func77, Try.ntmps77
 go_wp2_with (go_at_call 102; have _t := tok1; refine (impl_Circuit_putEach.calls G base ins ov g 4 A1 A2 c1 c2 a b w hb HBD0.out Hha.out Hhb2.out hi0 hi1 hl (by omega) HBL.out).mono ?_; rintro e w1 ⟨v1, rfl, hbd, hv, hf⟩; have B1 := Aside0.mk hbd; have V1 := Aside0.mk hv; have F1 := Aside0.mk hf; clear tok1 hbd hv hf)
 go_ret
 rw [HT.out]
 exact ⟨_, rfl, B1.out, V1.out, F1.out⟩

set_option maxHeartbeats 16000000 in
set_option maxRecDepth 100000 in
/-- The gates of the operator 10. -/
theorem impl_Circuit_putTwo_10.calls (G base : Nat) (ins : Int) (ov : Value) (g : List S93) (A1 A2 : Option Addr) (c1 c2 : Nat) (a b : List Int) (w : World) (hb : base ≤ w.heap.size) (HBD : Bd 27 G base ins ov w g) (ha : (∀ W', Fr 93 G base w W' → Kd.C (Kd.int .i64) W' A1 a.length a)) (hb2 : (∀ W', Fr 93 G base w W' → Kd.C (Kd.int .i64) W' A2 b.length b)) (hi0 : 0 ≤ ins) (hi1 : ins ≤ 1000000) (hl : g.length ≤ 900000) (hlm : g.length ≤ 800000) (hal : a.length ≤ 50) (hal1 : 1 ≤ a.length) (hc1 : a.length ≤ c1) (hc2 : b.length ≤ c2) (hbl : b.length = a.length) :
 Calls Try.prog 77 #[.pointer (some ⟨G, 0, none⟩), .int .i64 10, .slice A1 a.length c1, .slice A2 b.length c2] w fun e w' => ∃ v : Value, e = .returned v ∧ Bd 27 G base ins ov w' (twoN ins 10 a b g).1 ∧ Kd.R (Kd.int .i64) 3 w' w.heap.size (fun k => k ≠ G) v (twoN ins 10 a b g).2 ∧ Fr 93 G base w w' := by
 have hGlt : G < w.heap.size := by obtain ⟨gv, hG, _⟩ := HBD; exact blk_lt hG
 have HBD0 := Aside0.mk HBD
 have Hha := Aside0.mk ha
 have Hhb2 := Aside0.mk hb2
 have HBL := Aside0.mk hbl
 clear HBD ha hb2 hbl
 have hu1 := Try.underlying25
 have HT := Aside0.mk (show twoN ins 10 a b g = emitN ins (fun i => ⟨5, rd a i, rd b i⟩) g a.length from by unfold twoN; simp)
 have tok1 : True := trivial
 go_enter Try.func77, Try.ntmps77
 go_wp2_with (go_at_call 102; have _t := tok1; refine (impl_Circuit_putEach.calls G base ins ov g 5 A1 A2 c1 c2 a b w hb HBD0.out Hha.out Hhb2.out hi0 hi1 hl (by omega) HBL.out).mono ?_; rintro e w1 ⟨v1, rfl, hbd, hv, hf⟩; have B1 := Aside0.mk hbd; have V1 := Aside0.mk hv; have F1 := Aside0.mk hf; clear tok1 hbd hv hf)
 go_ret
 rw [HT.out]
 exact ⟨_, rfl, B1.out, V1.out, F1.out⟩

set_option maxHeartbeats 16000000 in
set_option maxRecDepth 100000 in
/-- The gates of the operator 3. -/
theorem impl_Circuit_putTwo_3.calls (G base : Nat) (ins : Int) (ov : Value) (g : List S93) (A1 A2 : Option Addr) (c1 c2 : Nat) (a b : List Int) (w : World) (hb : base ≤ w.heap.size) (HBD : Bd 27 G base ins ov w g) (ha : (∀ W', Fr 93 G base w W' → Kd.C (Kd.int .i64) W' A1 a.length a)) (hb2 : (∀ W', Fr 93 G base w W' → Kd.C (Kd.int .i64) W' A2 b.length b)) (hi0 : 0 ≤ ins) (hi1 : ins ≤ 1000000) (hl : g.length ≤ 900000) (hlm : g.length ≤ 800000) (hal : a.length ≤ 50) (hal1 : 1 ≤ a.length) (hc1 : a.length ≤ c1) (hc2 : b.length ≤ c2) (hbl : b.length = a.length) :
 Calls Try.prog 77 #[.pointer (some ⟨G, 0, none⟩), .int .i64 3, .slice A1 a.length c1, .slice A2 b.length c2] w fun e w' => ∃ v : Value, e = .returned v ∧ Bd 27 G base ins ov w' (twoN ins 3 a b g).1 ∧ Kd.R (Kd.int .i64) 3 w' w.heap.size (fun k => k ≠ G) v (twoN ins 3 a b g).2 ∧ Fr 93 G base w w' := by
 have hGlt : G < w.heap.size := by obtain ⟨gv, hG, _⟩ := HBD; exact blk_lt hG
 have HBD0 := Aside0.mk HBD
 have Hha := Aside0.mk ha
 have Hhb2 := Aside0.mk hb2
 have HBL := Aside0.mk hbl
 clear HBD ha hb2 hbl
 have hu1 := Try.underlying25
 obtain ⟨g1, hg1⟩ : ∃ q, q = g ++ [(⟨1, 0, 0⟩ : S93)] := ⟨_, rfl⟩
 obtain ⟨d, hd⟩ : ∃ q, q = ins + (g.length : Int) := ⟨_, rfl⟩
 have ht : twoN ins 3 a b g = ((addN ins a b d g1 a.length).1, (addN ins a b d g1 a.length).2.1) := by rw [hd, hg1]; unfold twoN; simp
 have HT := Aside0.mk ht
 have G1 := Aside0.mk hg1
 have N0 := Aside0.mk hd
 have L1 : g1.length ≤ 900000 := by rw [hg1, List.length_append, List.length_singleton]; omega
 have F0 := Aside0.mk (Fr.refl 93 G base w)
 have tok1 : True := trivial
 have tok2 : True := trivial
 clear ht hg1 hd
 go_enter Try.func77, Try.ntmps77
 go_wp2_with (first | (go_at_call 101; have _t := tok1; refine (impl_Circuit_put.calls G base ins ov g g1 1 0 0 d _ (Nat.le_trans hb F0.out.size) HBD0.out hi0 hi1 (by omega) N0.out G1.out).mono ?_; rintro e w1 ⟨rfl, hbd, hf⟩; have B1 := Aside0.mk hbd; have F1 := Aside0.mk (F0.out.trans hf); clear tok1 hbd hf) | (go_at_call 103; have _t := tok2; refine (impl_Circuit_putAdd.calls G base ins ov g1 A1 A2 c1 c2 a b d w1 (Nat.le_trans hb F1.out.size) B1.out (Fr.C_step Hha.out F1.out) (Fr.C_step Hhb2.out F1.out) hi0 hi1 L1 (by omega) HBL.out).mono ?_; rintro e w2 ⟨v2, rfl, hbd, hv, hf⟩; have B2 := Aside0.mk hbd; have V2 := Aside0.mk (Kd.R_lower hv F1.out.size); have F2 := Aside0.mk (F1.out.trans hf); clear tok2 hbd hv hf))
 go_ret
 rw [HT.out]
 exact ⟨_, rfl, B2.out, V2.out, F2.out⟩

set_option maxHeartbeats 16000000 in
set_option maxRecDepth 100000 in
/-- The gates of the operator 4. -/
theorem impl_Circuit_putTwo_4.calls (G base : Nat) (ins : Int) (ov : Value) (g : List S93) (A1 A2 : Option Addr) (c1 c2 : Nat) (a b : List Int) (w : World) (hb : base ≤ w.heap.size) (HBD : Bd 27 G base ins ov w g) (ha : (∀ W', Fr 93 G base w W' → Kd.C (Kd.int .i64) W' A1 a.length a)) (hb2 : (∀ W', Fr 93 G base w W' → Kd.C (Kd.int .i64) W' A2 b.length b)) (hi0 : 0 ≤ ins) (hi1 : ins ≤ 1000000) (hl : g.length ≤ 900000) (hlm : g.length ≤ 800000) (hal : a.length ≤ 50) (hal1 : 1 ≤ a.length) (hc1 : a.length ≤ c1) (hc2 : b.length ≤ c2) (hbl : b.length = a.length) :
 Calls Try.prog 77 #[.pointer (some ⟨G, 0, none⟩), .int .i64 4, .slice A1 a.length c1, .slice A2 b.length c2] w fun e w' => ∃ v : Value, e = .returned v ∧ Bd 27 G base ins ov w' (twoN ins 4 a b g).1 ∧ Kd.R (Kd.int .i64) 3 w' w.heap.size (fun k => k ≠ G) v (twoN ins 4 a b g).2 ∧ Fr 93 G base w w' := by
 have hGlt : G < w.heap.size := by obtain ⟨gv, hG, _⟩ := HBD; exact blk_lt hG
 have HBD0 := Aside0.mk HBD
 have Hha := Aside0.mk ha
 have Hhb2 := Aside0.mk hb2
 have HBL := Aside0.mk hbl
 clear HBD ha hb2 hbl
 have hu1 := Try.underlying25
 obtain ⟨gn, hgn⟩ : ∃ q, (emitN ins (fun i => ⟨2, rd b i, 0⟩) g b.length).1 = q := ⟨_, rfl⟩
 obtain ⟨nn, hnn⟩ : ∃ q, (emitN ins (fun i => ⟨2, rd b i, 0⟩) g b.length).2 = q := ⟨_, rfl⟩
 have hlen := emitN_len ins (fun i => ⟨2, rd b i, 0⟩) g b.length
 rw [hgn, hnn] at hlen
 obtain ⟨hl1, hl2⟩ := hlen
 have hbn := HBL.out
 have Lg : gn.length ≤ 810000 := by omega
 have NL := Aside0.mk (show nn.length = a.length by omega)
 clear hl1 hl2 hbn
 obtain ⟨g1, hg1⟩ : ∃ q, q = gn ++ [(⟨1, 1, 0⟩ : S93)] := ⟨_, rfl⟩
 obtain ⟨d, hd⟩ : ∃ q, q = ins + (gn.length : Int) := ⟨_, rfl⟩
 have ht : twoN ins 4 a b g = ((addN ins a nn d g1 a.length).1, (addN ins a nn d g1 a.length).2.1) := by rw [hd, hg1, ← hgn, ← hnn]; unfold twoN; simp
 have HT := Aside0.mk ht
 have G1 := Aside0.mk hg1
 have N0 := Aside0.mk hd
 have HGN := Aside0.mk hgn
 have HNN := Aside0.mk hnn
 have L1 : g1.length ≤ 900000 := by rw [hg1, List.length_append, List.length_singleton]; omega
 have tok0 : True := trivial
 have tok1 : True := trivial
 have tok2 : True := trivial
 clear ht hg1 hd hgn hnn
 go_enter Try.func77, Try.ntmps77
 go_wp2_with (first | (go_at_call 76; have _t := tok0; refine (impl_Circuit_putNots.calls G base ins ov g A2 c2 b w hb HBD0.out Hhb2.out hi0 hi1 hl (by have := HBL.out; omega)).mono ?_; rintro e w0 ⟨v0, rfl, hbd, hv, hf⟩; rw [HGN.out] at hbd; rw [HNN.out] at hv; obtain ⟨A9, c9, rfl⟩ := Kd.R_slice hv; have B0 := Aside0.mk hbd; have V0 := Aside0.mk hv; have F0 := Aside0.mk hf; clear tok0 hbd hv hf) | (go_at_call 101; have _t := tok1; refine (impl_Circuit_put.calls G base ins ov gn g1 1 1 0 d _ (Nat.le_trans hb F0.out.size) B0.out hi0 hi1 (by omega) N0.out G1.out).mono ?_; rintro e w1 ⟨rfl, hbd, hf⟩; have B1 := Aside0.mk hbd; have F1 := Aside0.mk (F0.out.trans hf); have V1 := Aside0.mk (Fr.R hf V0.out (by decide) (fun _ hk => hk)); clear tok1 hbd hf) | (go_at_call 103; have _t := tok2; refine (impl_Circuit_putAdd.calls G base ins ov g1 A1 A9 c1 c9 a nn d w1 (Nat.le_trans hb F1.out.size) B1.out (Fr.C_step Hha.out F1.out) (Fr.C_own V1.out (by decide) (fun _ hk => hk)) hi0 hi1 L1 (by omega) NL.out).mono ?_; rintro e w2 ⟨v2, rfl, hbd, hv, hf⟩; have B2 := Aside0.mk hbd; have V2 := Aside0.mk (Kd.R_lower hv F1.out.size); have F2 := Aside0.mk (F1.out.trans hf); clear tok2 hbd hv hf))
 go_ret
 rw [HT.out]
 exact ⟨_, rfl, B2.out, V2.out, F2.out⟩

set_option maxHeartbeats 16000000 in
set_option maxRecDepth 100000 in
/-- The gates of the operator 5. -/
theorem impl_Circuit_putTwo_5.calls (G base : Nat) (ins : Int) (ov : Value) (g : List S93) (A1 A2 : Option Addr) (c1 c2 : Nat) (a b : List Int) (w : World) (hb : base ≤ w.heap.size) (HBD : Bd 27 G base ins ov w g) (ha : (∀ W', Fr 93 G base w W' → Kd.C (Kd.int .i64) W' A1 a.length a)) (hb2 : (∀ W', Fr 93 G base w W' → Kd.C (Kd.int .i64) W' A2 b.length b)) (hi0 : 0 ≤ ins) (hi1 : ins ≤ 1000000) (hl : g.length ≤ 900000) (hlm : g.length ≤ 800000) (hal : a.length ≤ 50) (hal1 : 1 ≤ a.length) (hc1 : a.length ≤ c1) (hc2 : b.length ≤ c2) (hbl : b.length = a.length) :
 Calls Try.prog 77 #[.pointer (some ⟨G, 0, none⟩), .int .i64 5, .slice A1 a.length c1, .slice A2 b.length c2] w fun e w' => ∃ v : Value, e = .returned v ∧ Bd 27 G base ins ov w' (twoN ins 5 a b g).1 ∧ Kd.R (Kd.int .i64) 3 w' w.heap.size (fun k => k ≠ G) v (twoN ins 5 a b g).2 ∧ Fr 93 G base w w' := by
 have hGlt : G < w.heap.size := by obtain ⟨gv, hG, _⟩ := HBD; exact blk_lt hG
 have HBD0 := Aside0.mk HBD
 have Hha := Aside0.mk ha
 have Hhb2 := Aside0.mk hb2
 have HBL := Aside0.mk hbl
 clear HBD ha hb2 hbl
 have hu1 := Try.underlying25
 have HT := Aside0.mk (show twoN ins 5 a b g = mulN ins a b g b.length from by unfold twoN; simp)
 have tok1 : True := trivial
 go_enter Try.func77, Try.ntmps77
 go_wp2_with (go_at_call 104; have _t := tok1; refine (impl_Circuit_putMul.calls G base ins ov g A1 A2 c1 c2 a b w hb HBD0.out Hha.out Hhb2.out hi0 hi1 hl hlm hal HBL.out).mono ?_; rintro e w1 ⟨v1, rfl, hbd, hv, hf⟩; have B1 := Aside0.mk hbd; have V1 := Aside0.mk hv; have F1 := Aside0.mk hf; clear tok1 hbd hv hf)
 go_ret
 rw [HT.out]
 exact ⟨_, rfl, B1.out, V1.out, F1.out⟩

set_option maxHeartbeats 16000000 in
set_option maxRecDepth 100000 in
/-- The gates of the operator 14. -/
theorem impl_Circuit_putTwo_14.calls (G base : Nat) (ins : Int) (ov : Value) (g : List S93) (A1 A2 : Option Addr) (c1 c2 : Nat) (a b : List Int) (w : World) (hb : base ≤ w.heap.size) (HBD : Bd 27 G base ins ov w g) (ha : (∀ W', Fr 93 G base w W' → Kd.C (Kd.int .i64) W' A1 a.length a)) (hb2 : (∀ W', Fr 93 G base w W' → Kd.C (Kd.int .i64) W' A2 b.length b)) (hi0 : 0 ≤ ins) (hi1 : ins ≤ 1000000) (hl : g.length ≤ 900000) (hlm : g.length ≤ 800000) (hal : a.length ≤ 50) (hal1 : 1 ≤ a.length) (hc1 : a.length ≤ c1) (hc2 : b.length ≤ c2) (hbl : b.length = a.length) :
 Calls Try.prog 77 #[.pointer (some ⟨G, 0, none⟩), .int .i64 14, .slice A1 a.length c1, .slice A2 b.length c2] w fun e w' => ∃ v : Value, e = .returned v ∧ Bd 27 G base ins ov w' (twoN ins 14 a b g).1 ∧ Kd.R (Kd.int .i64) 3 w' w.heap.size (fun k => k ≠ G) v (twoN ins 14 a b g).2 ∧ Fr 93 G base w w' := by
 have hGlt : G < w.heap.size := by obtain ⟨gv, hG, _⟩ := HBD; exact blk_lt hG
 have HBD0 := Aside0.mk HBD
 have Hha := Aside0.mk ha
 have Hhb2 := Aside0.mk hb2
 have HBL := Aside0.mk hbl
 clear HBD ha hb2 hbl
 have hu1 := Try.underlying25
 obtain ⟨x, hx⟩ : ∃ q, (eqN ins a b g a.length).2 = q := ⟨_, rfl⟩
 have ht : twoN ins 14 a b g = ((eqN ins a b g a.length).1, [x]) := by rw [← hx]; unfold twoN; simp
 have HT := Aside0.mk ht
 have HX := Aside0.mk hx
 have tok1 : True := trivial
 clear ht hx
 go_enter Try.func77, Try.ntmps77
 go_wp2_with (go_at_call 105; have _t := tok1; refine (impl_Circuit_putEq.calls G base ins ov g A1 A2 c1 c2 a b w hb HBD0.out Hha.out Hhb2.out hi0 hi1 hl (by omega) HBL.out).mono ?_; rintro e w1 ⟨rfl, hbd, hf⟩; rw [HX.out]; have B1 := Aside0.mk hbd; have F1 := Aside0.mk hf; have hs1 := hf.size; clear tok1 hbd hf)
 go_ret
 rw [HT.out]
 exact ⟨_, rfl, B1.out.alloc _, Kd.R_lower (R_one w1 3 (fun k => k ≠ G) x (by omega)) hs1, F1.out.alloc _⟩

set_option maxHeartbeats 16000000 in
set_option maxRecDepth 100000 in
/-- The gates of the operator 15. -/
theorem impl_Circuit_putTwo_15.calls (G base : Nat) (ins : Int) (ov : Value) (g : List S93) (A1 A2 : Option Addr) (c1 c2 : Nat) (a b : List Int) (w : World) (hb : base ≤ w.heap.size) (HBD : Bd 27 G base ins ov w g) (ha : (∀ W', Fr 93 G base w W' → Kd.C (Kd.int .i64) W' A1 a.length a)) (hb2 : (∀ W', Fr 93 G base w W' → Kd.C (Kd.int .i64) W' A2 b.length b)) (hi0 : 0 ≤ ins) (hi1 : ins ≤ 1000000) (hl : g.length ≤ 900000) (hlm : g.length ≤ 800000) (hal : a.length ≤ 50) (hal1 : 1 ≤ a.length) (hc1 : a.length ≤ c1) (hc2 : b.length ≤ c2) (hbl : b.length = a.length) :
 Calls Try.prog 77 #[.pointer (some ⟨G, 0, none⟩), .int .i64 15, .slice A1 a.length c1, .slice A2 b.length c2] w fun e w' => ∃ v : Value, e = .returned v ∧ Bd 27 G base ins ov w' (twoN ins 15 a b g).1 ∧ Kd.R (Kd.int .i64) 3 w' w.heap.size (fun k => k ≠ G) v (twoN ins 15 a b g).2 ∧ Fr 93 G base w w' := by
 have hGlt : G < w.heap.size := by obtain ⟨gv, hG, _⟩ := HBD; exact blk_lt hG
 have HBD0 := Aside0.mk HBD
 have Hha := Aside0.mk ha
 have Hhb2 := Aside0.mk hb2
 have HBL := Aside0.mk hbl
 clear HBD ha hb2 hbl
 have hu1 := Try.underlying25
 obtain ⟨x, hx⟩ : ∃ q, (lessN ins a b g a.length).2 = q := ⟨_, rfl⟩
 have ht : twoN ins 15 a b g = ((lessN ins a b g a.length).1, [x]) := by rw [← hx]; unfold twoN; simp
 have HT := Aside0.mk ht
 have HX := Aside0.mk hx
 have tok1 : True := trivial
 clear ht hx
 go_enter Try.func77, Try.ntmps77
 go_wp2_with (go_at_call 106; have _t := tok1; refine (impl_Circuit_putLess.calls G base ins ov g A1 A2 c1 c2 a b w hb HBD0.out Hha.out Hhb2.out hi0 hi1 hl (by omega) HBL.out).mono ?_; rintro e w1 ⟨rfl, hbd, hf⟩; rw [HX.out]; have B1 := Aside0.mk hbd; have F1 := Aside0.mk hf; have hs1 := hf.size; clear tok1 hbd hf)
 go_ret
 rw [HT.out]
 exact ⟨_, rfl, B1.out.alloc _, Kd.R_lower (R_one w1 3 (fun k => k ≠ G) x (by omega)) hs1, F1.out.alloc _⟩

set_option maxHeartbeats 16000000 in
set_option maxRecDepth 100000 in
/-- The gates of the operator 16. -/
theorem impl_Circuit_putTwo_16.calls (G base : Nat) (ins : Int) (ov : Value) (g : List S93) (A1 A2 : Option Addr) (c1 c2 : Nat) (a b : List Int) (w : World) (hb : base ≤ w.heap.size) (HBD : Bd 27 G base ins ov w g) (ha : (∀ W', Fr 93 G base w W' → Kd.C (Kd.int .i64) W' A1 a.length a)) (hb2 : (∀ W', Fr 93 G base w W' → Kd.C (Kd.int .i64) W' A2 b.length b)) (hi0 : 0 ≤ ins) (hi1 : ins ≤ 1000000) (hl : g.length ≤ 900000) (hlm : g.length ≤ 800000) (hal : a.length ≤ 50) (hal1 : 1 ≤ a.length) (hc1 : a.length ≤ c1) (hc2 : b.length ≤ c2) (hbl : b.length = a.length) :
 Calls Try.prog 77 #[.pointer (some ⟨G, 0, none⟩), .int .i64 16, .slice A1 a.length c1, .slice A2 b.length c2] w fun e w' => ∃ v : Value, e = .returned v ∧ Bd 27 G base ins ov w' (twoN ins 16 a b g).1 ∧ Kd.R (Kd.int .i64) 3 w' w.heap.size (fun k => k ≠ G) v (twoN ins 16 a b g).2 ∧ Fr 93 G base w w' := by
 have hGlt : G < w.heap.size := by obtain ⟨gv, hG, _⟩ := HBD; exact blk_lt hG
 have HBD0 := Aside0.mk HBD
 have Hha := Aside0.mk ha
 have Hhb2 := Aside0.mk hb2
 have HBL := Aside0.mk hbl
 clear HBD ha hb2 hbl
 have hu1 := Try.underlying25
 obtain ⟨m, hm⟩ : ∃ m, a.length = m + 1 := ⟨a.length - 1, by omega⟩
 have hmz : (a.length : Int) - 1 = (m : Int) := by omega
 have HLM := Aside0.mk (show m < a.length by omega)
 have HLB := Aside0.mk (show m < b.length by have := HBL.out; omega)
 have hlb := HLB.out
 have hla := HLM.out
 obtain ⟨x, hx⟩ : ∃ x, rd a m = x := ⟨_, rfl⟩
 obtain ⟨y, hy⟩ : ∃ y, rd b m = y := ⟨_, rfl⟩
 obtain ⟨d, hd⟩ : ∃ q, q = ins + (g.length : Int) := ⟨_, rfl⟩
 obtain ⟨g1, hg1⟩ : ∃ q, q = g ++ [(⟨2, x, 0⟩ : S93)] := ⟨_, rfl⟩
 obtain ⟨g2, hg2⟩ : ∃ q, q = g1 ++ [(⟨2, y, 0⟩ : S93)] := ⟨_, rfl⟩
 have n1 : (g1.length : Int) = g.length + 1 := by rw [hg1]; simp
 have n2 : (g2.length : Int) = g.length + 2 := by rw [hg2, List.length_append, List.length_singleton]; omega
 obtain ⟨p, hp⟩ : ∃ q, q = a.set m d := ⟨_, rfl⟩
 obtain ⟨q, hq⟩ : ∃ r, r = b.set m (d + 1) := ⟨_, rfl⟩
 obtain ⟨z, hz⟩ : ∃ r, (lessN ins p q g2 a.length).2 = r := ⟨_, rfl⟩
 have ht : twoN ins 16 a b g = ((lessN ins p q g2 a.length).1, [z]) := by rw [← hz, hp, hq, hg2, hg1, hd, ← hx, ← hy]; unfold twoN; rw [show a.length - 1 = m by omega]; simp
 have HT := Aside0.mk ht
 have HX := Aside0.mk hx
 have HY := Aside0.mk hy
 have HZ := Aside0.mk hz
 have HP := Aside0.mk hp
 have HQ := Aside0.mk hq
 have G1 := Aside0.mk hg1
 have G2 := Aside0.mk hg2
 have N0 := Aside0.mk hd
 have N1 := Aside0.mk (show d + 1 = ins + (g1.length : Int) by omega)
 have L1 : g1.length ≤ 1000000 := by omega
 have L2 : g2.length ≤ 900000 := by omega
 have hd0 : 0 ≤ d := by omega
 have hd1 : d ≤ 2000000 := by omega
 have OW1 := Aside0.mk (show slices_Clone_int.f a = some a from by unfold slices_Clone_int.f; rw [Option.bind_some, if_pos (by simp; omega), List.nil_append])
 have OW2 := Aside0.mk (show slices_Clone_int.f b = some b from by unfold slices_Clone_int.f; rw [Option.bind_some, if_pos (by have := HBL.out; simp; omega), List.nil_append])
 have F0 := Aside0.mk (Fr.refl 93 G base w)
 have tok1 : True := trivial
 have tok2 : True := trivial
 have tok3 : True := trivial
 have tok5 : True := trivial
 have tok7 : True := trivial
 obtain ⟨ad, e, hxa0⟩ := Kd.at_int (Hha.out _ F0.out) (m : Int) (by omega) (by omega)
 cases e
 obtain ⟨ae, e, hya0⟩ := Kd.at_int (Hhb2.out _ F0.out) (m : Int) (by omega) (by have := HLB.out; omega)
 cases e
 clear hxa0 hya0 ht hx hy hz hp hq hg1 hg2 hd n1 n2 hm
 go_enter Try.func77, Try.ntmps77
 go_wp2_with (first | (go_at_call 78; have _t := tok1; refine (slices_Clone_int.calls (some ad) c1 a a w (Hha.out _ F0.out) hc1 (OW1.out)).mono ?_; rintro e w1 ⟨v1, rfl, hv, hb_⟩; obtain ⟨gr1, cp1, hv_, _, _, hh1⟩ := Kd.R_form hv (by have := HBL.out; omega); cases hv_; have R1 := Aside0.mk (Kd.R_mono (Kd.R_bound hv) (ok' := fun k => k ≠ G ∧ w.heap.size ≤ k) (fun k hk => ⟨by have := hk.2.1; have := F0.out.size; omega, hk.2.1⟩)); have F1 := Aside0.mk (F0.out.step_below hb_); have B1 := Aside0.mk (HBD0.out.below hb_); clear tok1 hv hb_ hh1) | (go_at_call 78; have _t := tok2; refine (slices_Clone_int.calls (some ae) c2 b b w1 (Hhb2.out _ F1.out) hc2 (OW2.out)).mono ?_; rintro e w2 ⟨v2, rfl, hv, hb_⟩; obtain ⟨gr2, cp2, hv_, _, _, hh2⟩ := Kd.R_form hv (by have := HBL.out; omega); cases hv_; have R2 := Aside0.mk (Kd.R_mono (Kd.R_bound hv) (ok' := fun k => k ≠ G ∧ w1.heap.size ≤ k) (fun k hk => ⟨by have := hk.2.1; have := F1.out.size; omega, hk.2.1⟩)); have F2 := Aside0.mk (F1.out.step_below hb_); have B2 := Aside0.mk (B1.out.below hb_); have P2 := Aside0.mk (R_till R1.out); have P2 := Aside0.mk (Kd.R_below P2.out hb_); have hxa := Fr.cellAt F2.out Hha.out HLM.out HX.out; clear tok2 hv hb_ hh2) | (go_at_call 101; have _t := tok3; refine (impl_Circuit_put.calls G base ins ov g g1 2 x 0 d _ (Nat.le_trans hb F2.out.size) B2.out hi0 hi1 (by omega) N0.out G1.out).mono ?_; rintro e w3 ⟨rfl, hbd, hf⟩; have B3 := Aside0.mk hbd; have F3 := Aside0.mk (F2.out.trans hf); have P3 := Aside0.mk (Fr.R hf P2.out (by decide) (fun _ hk => hk.1.1)); have R3 := Aside0.mk (Fr.R hf R2.out (by decide) (fun _ hk => hk.1)); obtain ⟨⟨u3, hc3⟩, hf3⟩ := R_placeI P3.out m HLM.out; clear hxa; clear tok3 hbd hf) | ((with_reducible refine gate_store (t := 3) (p := 92) rfl ?_); refine store_event (t := 3) (p := 92) (v := .tmp 91) (w1 := w3.setCell ⟨gr1, m, none⟩ (.int .i64 d)) ?hg ?ho ?hn ?hr ?_; (case ho => rfl); (case hg => rfl); (case hn => rfl); (case hr => first | (go_simp; done) | (go_simp; rfl)); intro w4 hw; obtain ⟨hR4, hg4⟩ := R_setI P3.out m HLM.out d; rw [← hw] at hR4 hg4; have P4 := Aside0.mk hR4; have R4 := Aside0.mk (R_new_grown R3.out hg4 (fun k e_ => by injection e_ with e_; have := (P3.out.1 gr1 rfl).2; omega)); have B4 := Aside0.mk (Bd.grown B3.out hg4 (fun k e_ => by injection e_ with e_; rw [← e_]; exact Kd.R_typed P3.out gr1 rfl) (by decide) (by decide)); have F4 := Aside0.mk (Fr.grown_new F3.out hg4 (fun k e_ => by injection e_ with e_; have := own_ge P3.out gr1 rfl; omega)); have hxb := Fr.cellAt F4.out Hhb2.out HLB.out HY.out; clear hw hR4 hg4 hc3 hf3) | (go_at_call 101; have _t := tok5; refine (impl_Circuit_put.calls G base ins ov g1 g2 2 y 0 (d + 1) _ (Nat.le_trans hb F4.out.size) B4.out hi0 hi1 L1 N1.out G2.out).mono ?_; rintro e w5 ⟨rfl, hbd, hf⟩; have B5 := Aside0.mk hbd; have F5 := Aside0.mk (F4.out.trans hf); have P5 := Aside0.mk (Fr.R hf P4.out (by decide) (fun _ hk => hk.1.1)); have R5 := Aside0.mk (Fr.R hf R4.out (by decide) (fun _ hk => hk.1)); obtain ⟨⟨u5, hc5⟩, hf5⟩ := R_placeI R5.out m HLB.out; clear hxb; clear tok5 hbd hf) | ((with_reducible refine gate_store (t := 3) (p := 101) rfl ?_); refine store_event (t := 3) (p := 101) (v := .tmp 100) (w1 := w5.setCell ⟨gr2, m, none⟩ (.int .i64 (d + 1))) ?hg ?ho ?hn ?hr ?_; (case ho => rfl); (case hg => rfl); (case hn => rfl); (case hr => first | (go_simp; done) | (go_simp; rfl)); intro w6 hw; obtain ⟨hR6, hg6⟩ := R_setI R5.out m HLB.out (d + 1); rw [← hw] at hR6 hg6; have R6 := Aside0.mk hR6; have P6 := Aside0.mk (R_old_grown P5.out hg6 (fun k e_ => by injection e_ with e_; have := (R5.out.1 gr2 rfl).2; omega)); have B6 := Aside0.mk (Bd.grown B5.out hg6 (fun k e_ => by injection e_ with e_; rw [← e_]; exact Kd.R_typed R5.out gr2 rfl) (by decide) (by decide)); have F6 := Aside0.mk (Fr.grown_new F5.out hg6 (fun k e_ => by injection e_ with e_; have := own_ge R5.out gr2 rfl; have := F1.out.size; omega)); have hp6 := P6.out; rw [← HP.out] at hp6; have hq6 := R6.out; rw [← HQ.out] at hq6; have CP6 := Aside0.mk (Fr.C_own (tG := 93) (G := G) (base := base) hp6 (by decide) (fun _ hk => hk.1.1)); have CQ6 := Aside0.mk (Fr.C_own (tG := 93) (G := G) (base := base) hq6 (by decide) (fun _ hk => hk.1)); clear hp6 hq6 hw hR6 hg6 hc5 hf5) | (go_at_call 106; have _t := tok7; refine calls_of_args (args' := #[.pointer (some ⟨G, 0, none⟩), .slice (some ⟨gr1, 0, none⟩) p.length cp1, .slice (some ⟨gr2, 0, none⟩) q.length cp2]) (by rw [HP.out, HQ.out, List.length_set, List.length_set]) ?_; refine (impl_Circuit_putLess.calls G base ins ov g2 (some ⟨gr1, 0, none⟩) (some ⟨gr2, 0, none⟩) cp1 cp2 p q w6 (Nat.le_trans hb F6.out.size) B6.out CP6.out CQ6.out hi0 hi1 L2 (by rw [HP.out, List.length_set]; omega) (by rw [HP.out, HQ.out, List.length_set, List.length_set]; exact HBL.out)).mono ?_; rintro e w7 ⟨rfl, hbd, hf⟩; rw [show p.length = a.length by rw [HP.out, List.length_set]] at hbd ⊢; rw [HZ.out]; have B7 := Aside0.mk hbd; have F7 := Aside0.mk (F6.out.trans hf); have hs7 := F7.out.size; clear tok7 hbd hf))
 go_ret
 rw [HT.out]
 exact ⟨_, rfl, B7.out.alloc _, Kd.R_lower (R_one w7 3 (fun k => k ≠ G) z (by omega)) hs7, F7.out.alloc _⟩

theorem impl_Circuit_putTwo.calls (G base : Nat) (ins : Int) (ov : Value) (g : List S93) (op : Int) (A1 A2 : Option Addr) (c1 c2 : Nat) (a b : List Int) (w : World) (hop : twoOp op = true) (hb : base ≤ w.heap.size) (HBD : Bd 27 G base ins ov w g) (ha : (∀ W', Fr 93 G base w W' → Kd.C (Kd.int .i64) W' A1 a.length a)) (hb2 : (∀ W', Fr 93 G base w W' → Kd.C (Kd.int .i64) W' A2 b.length b)) (hi0 : 0 ≤ ins) (hi1 : ins ≤ 1000000) (hl : g.length ≤ 900000) (hlm : g.length ≤ 800000) (hal : a.length ≤ 50) (hal1 : 1 ≤ a.length) (hc1 : a.length ≤ c1) (hc2 : b.length ≤ c2) (hbl : b.length = a.length) :
 Calls Try.prog 77 #[.pointer (some ⟨G, 0, none⟩), .int .i64 op, .slice A1 a.length c1, .slice A2 b.length c2] w fun e w' => ∃ v : Value, e = .returned v ∧ Bd 27 G base ins ov w' (twoN ins op a b g).1 ∧ Kd.R (Kd.int .i64) 3 w' w.heap.size (fun k => k ≠ G) v (twoN ins op a b g).2 ∧ Fr 93 G base w w' := by
 have h : op = 3 ∨ op = 4 ∨ op = 5 ∨ op = 8 ∨ op = 9 ∨ op = 10 ∨ op = 14 ∨ op = 15 ∨ op = 16 ∨ op = 17 ∨ op = 18 := by unfold twoOp at hop; simp only [Bool.or_eq_true, beq_iff_eq] at hop; omega
 clear hop
 rcases h with rfl | rfl | rfl | rfl | rfl | rfl | rfl | rfl | rfl | rfl | rfl
 ·exact impl_Circuit_putTwo_3.calls G base ins ov g A1 A2 c1 c2 a b w hb HBD ha hb2 hi0 hi1 hl hlm hal hal1 hc1 hc2 hbl
 ·exact impl_Circuit_putTwo_4.calls G base ins ov g A1 A2 c1 c2 a b w hb HBD ha hb2 hi0 hi1 hl hlm hal hal1 hc1 hc2 hbl
 ·exact impl_Circuit_putTwo_5.calls G base ins ov g A1 A2 c1 c2 a b w hb HBD ha hb2 hi0 hi1 hl hlm hal hal1 hc1 hc2 hbl
 ·exact impl_Circuit_putTwo_8.calls G base ins ov g A1 A2 c1 c2 a b w hb HBD ha hb2 hi0 hi1 hl hlm hal hal1 hc1 hc2 hbl
 ·exact impl_Circuit_putTwo_9.calls G base ins ov g A1 A2 c1 c2 a b w hb HBD ha hb2 hi0 hi1 hl hlm hal hal1 hc1 hc2 hbl
 ·exact impl_Circuit_putTwo_10.calls G base ins ov g A1 A2 c1 c2 a b w hb HBD ha hb2 hi0 hi1 hl hlm hal hal1 hc1 hc2 hbl
 ·exact impl_Circuit_putTwo_14.calls G base ins ov g A1 A2 c1 c2 a b w hb HBD ha hb2 hi0 hi1 hl hlm hal hal1 hc1 hc2 hbl
 ·exact impl_Circuit_putTwo_15.calls G base ins ov g A1 A2 c1 c2 a b w hb HBD ha hb2 hi0 hi1 hl hlm hal hal1 hc1 hc2 hbl
 ·exact impl_Circuit_putTwo_16.calls G base ins ov g A1 A2 c1 c2 a b w hb HBD ha hb2 hi0 hi1 hl hlm hal hal1 hc1 hc2 hbl
 ·exact impl_Circuit_putTwo_17.calls G base ins ov g A1 A2 c1 c2 a b w hb HBD ha hb2 hi0 hi1 hl hlm hal hal1 hc1 hc2 hbl
 ·exact impl_Circuit_putTwo_18.calls G base ins ov g A1 A2 c1 c2 a b w hb HBD ha hb2 hi0 hi1 hl hlm hal hal1 hc1 hc2 hbl

end Go.Proofs.Ytckgeanmljmhfaa.X
