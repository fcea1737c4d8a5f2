/- Go functions as Lean functions, each with the proof that its call comes to just its answer. Conditions: the arguments are of their kinds. -/
import Derived.Test.YtckgeanmljmhfaaX0
import Derived.Test.YtckgeanmljmhfaaX21
import Derived.Test.YtckgeanmljmhfaaX5
import Derived.StillTailTactics
import Derived.Lib.SliceRun
namespace Go.Proofs.Ytckgeanmljmhfaa.X
open Go.RowKit Go.Proofs.YtckgeanmljmhfaaW.PrintWords Go.Proofs.YtckgeanmljmhfaaW.PrintLast Go.Proofs.YtckgeanmljmhfaaW.PrintMore
attribute [local go_sem] max2_int min2_int max_two min_two max_three min_three max_four min_four   -- for this text's walks alone
set_option linter.unusedVariables false
set_option linter.unusedSimpArgs false

/-! ### impl_isPlain: function 40 -/
def impl_isPlain.f (l0 : List (S63)) : Option (Bool) := (impl_isPlain_any.f l0).bind fun t202 => (some (!t202))
set_option maxHeartbeats 8000000 in
set_option maxRecDepth 100000 in
theorem impl_isPlain.calls (A0 : Option Addr) (c0 : Nat) (l0 : List (S63)) (r : Bool) (w : World) (hr0 : Kd.C k63 w A0 l0.length l0) (hc0 : l0.length ≤ c0) (h : impl_isPlain.f l0 = some r) :
  Calls Try.prog 40 #[.slice A0 l0.length c0] w fun e w' => e = .returned (.bool r) ∧ Below w.heap.size w w' := by
 have HR0 := Aside0.mk hr0
 have HC0 := Aside0.mk hc0
 clear hr0 hc0
 have HB := Aside0.mk (Below.refl w.heap.size w)
 have H : ((impl_isPlain_any.f l0).bind fun t202 => (some (!t202))) = some r := h
 clear h
 replace H := Option.bind_eq_some_iff.mp H
 obtain ⟨t202, A20, H⟩ := H
 replace H : (some (!t202)) = some r := H
 have A2 := Aside0.mk A20
 clear A20
 obtain rfl := Option.some.inj H
 go_enter Try.func40, Try.ntmps40
 go_wp2_with (first | ((with_reducible refine gate_callee (f := 73) rfl ?_); refine goesL_ (some 4) rfl rfl Try.func73 (by kernel_rfl) rfl #[.slice A0 l0.length c0, .func (.func 74) #[] #[]] rfl qG ?_; (with_reducible refine (impl_isPlain_any.calls _ _ l0  t202 _ ?side1 ?side2 A2.out).mono ?_); (case side1 => exact qC HR0.out); (case side2 => exact HC0.out); rintro e w3 ⟨rfl, hb⟩; refine ⟨_, rfl, ?_⟩; have n0_ := Aside0.mk (below_step (qB) hb); clear HB; have HB := n0_; clear n0_; (try clear hb); (try clear hb2); (try clear hk); (try clear hi)))
 go_ret
 exact ⟨qE, qB⟩

/-! ### impl_Circuit_wires: function 81 -/
def impl_Circuit_wires.f (a0_0 : Int) (l0_1 : List (S93)) (l0_2 : List Int) : Option (Int) := some (wrap64 (a0_0 + (l0_1.length : Int)))
set_option maxHeartbeats 8000000 in
set_option maxRecDepth 100000 in
theorem impl_Circuit_wires.calls (a0_0 : Int) (A0_1 : Option Addr) (c0_1 : Nat) (l0_1 : List (S93)) (A0_2 : Option Addr) (c0_2 : Nat) (l0_2 : List Int) (r : Int) (w : World) (hr0_1 : Kd.C k93 w A0_1 l0_1.length l0_1) (hc0_1 : l0_1.length ≤ c0_1) (hr0_2 : Kd.C (Kd.int .i64) w A0_2 l0_2.length l0_2) (hc0_2 : l0_2.length ≤ c0_2) (h : impl_Circuit_wires.f a0_0 l0_1 l0_2 = some r) :
  Calls Try.prog 81 #[.agg #[.int .i64 a0_0, .slice A0_1 l0_1.length c0_1, .slice A0_2 l0_2.length c0_2]] w fun e w' => e = .returned (.int .i64 r) ∧ Below w.heap.size w w' := by
 have hu27 := Try.underlying27
 have HR0_1 := Aside0.mk hr0_1
 have HC0_1 := Aside0.mk hc0_1
 clear hr0_1 hc0_1
 have HR0_2 := Aside0.mk hr0_2
 have HC0_2 := Aside0.mk hc0_2
 clear hr0_2 hc0_2
 have HB := Aside0.mk (Below.refl w.heap.size w)
 have H : (some (wrap64 (a0_0 + (l0_1.length : Int)))) = some r := h
 clear h
 obtain rfl := Option.some.inj H
 go_enter Try.func81, Try.ntmps81
 go_wp2_with (first | ((with_reducible refine gate_dst (N := 1) rfl ?_); refine box_event ?hg (N := 1) ?hd (cs := #[.int .i64 a0_0, .slice A0_1 l0_1.length c0_1, .slice A0_2 l0_2.length c0_2]) (t := 27) ?hr ?_; (case hd => rfl); (case hg => rfl); (case hr => first | (go_simp; done) | (go_simp; rfl)); intro gb203 hg w2 hbox hb; have n0_ := Aside0.mk (below_step (qB) hb); have n1_ := Aside0.mk (hbox); have n2_ := Aside0.mk ((by rw [hg]; exact (below_size (qB)) : w.heap.size ≤ gb203)); have n3_ := Aside0.mk ((by rw [hg]; exact (below_size (qB)) : w.heap.size ≤ gb203)); clear HB; have HB := n0_; have BK203 := n1_; have GW203 := n2_; have GE203 := n3_; clear n0_ n1_ n2_ n3_; clear hb hbox hg; have hcz3_0 : w2.cell? ⟨gb203, 0, none⟩ = some (.int .i64 a0_0) := (blk_cell BK203.out 0).trans rfl; have hcz3_1 : w2.cell? ⟨gb203, 1, none⟩ = some (.slice A0_1 l0_1.length c0_1) := (blk_cell BK203.out 1).trans rfl; have hcz3_2 : w2.cell? ⟨gb203, 2, none⟩ = some (.slice A0_2 l0_2.length c0_2) := (blk_cell BK203.out 2).trans rfl; have hfz3_0 := blk_frozen BK203.out 0; have hfz3_1 := blk_frozen BK203.out 1; have hfz3_2 := blk_frozen BK203.out 2))
 go_ret
 exact ⟨qE, qB⟩


-- HAND
/-! ### impl_Circuit_put: function 101 -/
-- IMPORT Derived.StillTailTactics
set_option maxHeartbeats 8000000 in
set_option maxRecDepth 100000 in
/-- A gate that is put: its wire, and the circuit behind it. -/
theorem impl_Circuit_put.calls (G base : Nat) (ins : Int) (ov : Value) (g g' : List S93) (a1 a2 a3 n : Int) (w : World) (hb : base ≤ w.heap.size) (HBD : Bd 27 G base ins ov w g)
  (hi0 : 0 ≤ ins) (hi1 : ins ≤ 1000000) (hl : g.length ≤ 1000000) (hn : n = ins + (g.length : Int)) (hg' : g' = g ++ [⟨a1, a2, a3⟩]) :
  Calls Try.prog 101 #[.pointer (some ⟨G, 0, none⟩), .int .i64 a1, .int .i64 a2, .int .i64 a3] w fun e w' => e = .returned (.int .i64 n) ∧ Bd 27 G base ins ov w' g' ∧ Fr 93 G base w w' := by
 obtain ⟨gv, hG, hR⟩ := HBD
 have hGlt := blk_lt hG
 obtain ⟨A0, c0, rfl⟩ := Kd.R_slice hR
 have hne := Kd.R_ne hR hG (by decide)
 have hty := Kd.R_typed hR
 have hbs := Kd.R_base hR
 have hlt := Kd.R_lt hR
 have hc0 : w.cell? ⟨G, 0, none⟩ = some (.int .i64 ins) := (blk_cell hG 0).trans rfl
 have hc1 : w.cell? ⟨G, 1, none⟩ = some (.slice A0 g.length c0) := (blk_cell hG 1).trans rfl
 have hc2 : w.cell? ⟨G, 2, none⟩ = some ov := (blk_cell hG 2).trans rfl
 have HR := Aside0.mk hR
 have HG := Aside0.mk hG
 have HNE := Aside0.mk hne
 have HTY := Aside0.mk hty
 have HBS := Aside0.mk hbs
 have HN := Aside0.mk hn
 have HG' := Aside0.mk hg'
 clear hR hG hne hty hbs hlt hn hg'
 have hu1 := Try.underlying24
 have hu2 := Try.underlying93
 have hu3 := Try.underlying27
 have hu4 := Try.underlying27
 go_enter Try.func101, Try.ntmps101
 go_wp2_with (first
  | ((with_reducible refine gate_builtin (b := .append) (xs := #[.tmp 13, .tmp 18]) rfl ?_); at_builtin; refine Kd.R_append k93 (w0 := w) base rfl (.tmp 13) (.tmp 18) 24 93 (.agg #[.int .i64 0, .int .i64 0, .int .i64 0]) 24 rfl Try.underlying24 info_gate rfl (by decide) (by omega) _ g ⟨a1, a2, a3⟩ [.int .i64 a1, .int .i64 a2, .int .i64 a3] (fun _ => True) (fun _ => False) rfl (by first | (go_simp; done) | (go_simp; rfl)) ?aP (fun _ hk => hk.elim) ?aF ?aO ?aB ?aS ?aL ?_; (case aP => exact k93_mkM _ _ _ ⟨a1, a2, a3⟩); (case aF => exact fun _ _ => trivial); (case aO => (with_reducible repeat (first | apply Kd.R_alloc | apply Kd.R_drewN | apply Kd.R_drew)); exact HR.out); (case aB => repeat (first | (with_reducible first | exact Below.refl _ _ | apply below_alloc | apply pw_below_drewN | apply below_drew1))); (case aS => first | omega | (simp; omega)); (case aL => first | omega | (simp; omega)); intro v3 w3 hv hb3 hg_ ha_; obtain ⟨A3, c3, rfl⟩ := Kd.R_slice hv; have hG3 := (hg_.block G hGlt HNE.out).trans HG.out; have hd0 : w3.cell? ⟨G, 0, none⟩ = some (.int .i64 ins) := (blk_cell hG3 0).trans rfl; have hd1 : w3.cell? ⟨G, 1, none⟩ = some (.slice A0 g.length c0) := (blk_cell hG3 1).trans rfl; have hd2 : w3.cell? ⟨G, 2, none⟩ = some ov := (blk_cell hG3 2).trans rfl; have hd3 : w3.frozen? ⟨G, 1, none⟩ = false := blk_frozen hG3 1; have HV3 := Aside0.mk hv; have HG3 := Aside0.mk hG3; have HF3 := Aside0.mk (Fr.grown_own (tG := 93) (G := G) (base := base) hg_ (fun k e_ => ⟨HBS.out k e_, HTY.out k e_⟩)); clear hv hb3 hg_ ha_ hG3 hc0 hc1 hc2)
  | (go_at_call 81; go_in))
 go_ret
 refine ⟨congrArg (fun z => Ending.returned (.int .i64 z)) (by have := HN.out; omega), ?_, ?_⟩
 ·rw [HG'.out]
  refine ⟨.slice A3 (g.length + 1) c3, blk_alloc (by simpa using blk_set HG3.out 1 (.slice A3 (g.length + 1) c3)) _, ?_⟩
  have h5 := HV3.out
  rw [List.length_append, List.length_singleton] at h5
  exact Kd.R_alloc (Kd.R_set h5 HG3.out (by decide) 1 _) _
 ·exact (HF3.out.trans (Fr.setG (Fr.refl _ _ _ _) 1 _)).alloc _


-- HAND
/-! ### impl_Circuit_putBits: function 75 -/
-- IMPORT Derived.StillTailTactics
set_option maxHeartbeats 16000000 in
set_option maxRecDepth 100000 in
/-- A constant gate for each bit. -/
theorem impl_Circuit_putBits.calls (G base : Nat) (ins : Int) (ov : Value) (g : List S93) (n : Int) (wd : Nat) (w : World) (hb : base ≤ w.heap.size) (HBD : Bd 27 G base ins ov w g) (hi0 : 0 ≤ ins) (hi1 : ins ≤ 1000000) (hl : g.length ≤ 900000) (hal : wd ≤ 10000) (hn0 : 0 ≤ n) (hn1 : n < 18446744073709551616) :
  Calls Try.prog 75 #[.pointer (some ⟨G, 0, none⟩), .int .i64 wd, .int .u64 n] w fun e w' => ∃ v : Value, e = .returned v ∧ Bd 27 G base ins ov w' (emitN ins (fun i => ⟨1, bitv n i, 0⟩) g wd).1 ∧ Kd.R (Kd.int .i64) 3 w' w.heap.size (fun k => k ≠ G) v (emitN ins (fun i => ⟨1, bitv n i, 0⟩) g wd).2 ∧ Fr 93 G base w w' := by
 have hGlt : G < w.heap.size := by obtain ⟨gv, hG, _⟩ := HBD; exact blk_lt hG
 have HBD0 := Aside0.mk HBD
 clear HBD
 have hu1 := Try.underlying25
 go_enter Try.func75, Try.ntmps75
 go_wp2
 have HV0 := Aside0.mk (R_fresh w 3 (fun k => k ≠ G) (by omega))
 have HBD1 := Aside0.mk (HBD0.out.alloc (.cells #[] 3))
 have HF1 := Aside0.mk ((Fr.refl 93 G base w).alloc (.cells #[] 3))
 go_loopg [7, 11] wd (fun gg so si wr => ∃ kk : Nat, kk ≤ wd ∧ wd - kk ≤ gg ∧ si = .int .i64 kk ∧ Aside0 (Bd 27 G base ins ov wr (emitN ins (fun i => ⟨1, bitv n i, 0⟩) g kk).1) ∧ Aside0 (Kd.R (Kd.int .i64) 3 wr w.heap.size (fun k => k ≠ G) so (emitN ins (fun i => ⟨1, bitv n i, 0⟩) g kk).2) ∧ Aside0 (Fr 93 G base w wr))
 case atStart => exact ⟨0, Nat.zero_le _, by omega, rfl, HBD1, HV0, HF1⟩
 case round =>
  clear HBD0 HBD1 HV0 HF1
  obtain ⟨kk, hkk, hg, rfl, HBD, HV, HF⟩ := hrel
  have hlen := emitN_len ins (fun i => ⟨1, bitv n i, 0⟩) g kk
  by_cases hlt : kk < wd
  ·have hltz : (kk : Int) < (wd : Int) := by omega
   have hs : emitN ins (fun i => ⟨1, bitv n i, 0⟩) g (kk + 1) = ((emitN ins (fun i => ⟨1, bitv n i, 0⟩) g kk).1 ++ [⟨1, bitv n kk, 0⟩], (emitN ins (fun i => ⟨1, bitv n i, 0⟩) g kk).2 ++ [(ins + ((emitN ins (fun i => ⟨1, bitv n i, 0⟩) g kk).1.length : Int))]) := rfl
   obtain ⟨gs, hgs⟩ : ∃ q, (emitN ins (fun i => ⟨1, bitv n i, 0⟩) g kk).1 = q := ⟨_, rfl⟩
   obtain ⟨os, hos⟩ : ∃ q, (emitN ins (fun i => ⟨1, bitv n i, 0⟩) g kk).2 = q := ⟨_, rfl⟩
   rw [hgs, hos] at hlen hs
   rw [hgs] at HBD
   rw [hos] at HV
   clear hgs hos
   obtain ⟨hl1, hl2⟩ := hlen
   have hol : os.length ≤ 10000 := by omega
   have hgl : gs.length ≤ 950000 := by omega
   obtain ⟨d, hd⟩ : ∃ d, ins + (gs.length : Int) = d := ⟨_, rfl⟩
   rw [hd] at hs
   have hd0 : 0 ≤ d := by omega
   have hd1 : d ≤ 2000000 := by omega
   clear hl1 hl2
   obtain ⟨x, hx⟩ : ∃ x, bitv n kk = x := ⟨_, rfl⟩
   rw [hx] at hs
   have HX := Aside0.mk hx
   clear hx
   obtain ⟨g1, hg1⟩ : ∃ q, q = gs ++ [(⟨1, x, 0⟩ : S93)] := ⟨_, rfl⟩
   rw [← hg1] at hs
   have N0 := Aside0.mk (show d = ins + (gs.length : Int) by omega)
   have L0 : gs.length ≤ 1000000 := by omega
   have G1 := Aside0.mk hg1
   have tok1 : True := trivial
   have HS := Aside0.mk hs
   clear hs hd hg1
   clear hgl
   go_wp2_with (first
     | (go_at_call 101; have _t := tok1; refine calls_of_args (args' := #[.pointer (some ⟨G, 0, none⟩), .int .i64 1, .int .i64 x, .int .i64 0]) (by rw [← HX.out]; rfl) ?_; refine (impl_Circuit_put.calls G base ins ov gs g1 1 x 0 d _ (Nat.le_trans hb HF.out.size) HBD.out hi0 hi1 L0 N0.out G1.out).mono ?_; rintro e w1 ⟨rfl, hbd, hf⟩; have B1 := Aside0.mk hbd; have F1 := Aside0.mk (HF.out.trans hf); have V1 := Aside0.mk (Fr.R hf HV.out (by decide) (fun _ hk => hk)); clear tok1 hbd hf)
     | ((with_reducible refine gate_builtin (b := .append) (xs := #[.tmp 14, .tmp 22]) rfl ?_); at_builtin; refine Kd.R_append (Kd.int .i64) (w0 := w1) w.heap.size rfl (.tmp 14) (.tmp 22) 25 3 (.int .i64 0) 8 rfl Try.underlying25 info_int rfl (by decide) (by omega) _ os d [.int .i64 d] (fun k => k ≠ G) (fun _ => False) rfl (by first | (go_simp; done) | (go_simp; rfl)) ?aP (fun _ hk => hk.elim) ?aF ?aO ?aB ?aS ?aL ?_; (case aP => exact rfl); (case aF => intro k hk; have hsz_ := F1.out.size; omega); (case aO => exact V1.out); (case aB => exact Below.refl _ _); (case aS => exact F1.out.size); (case aL => omega); intro v22 w22 hv _ hg_ _; have V22 := Aside0.mk hv; have B22 := Aside0.mk (Bd.grown B1.out hg_ (Kd.R_typed V1.out) (by decide) (by decide)); have F22 := Aside0.mk (Fr.grown_new F1.out hg_ (own_ge V1.out)); clear hv hg_))
   go_roundg (wd - (kk + 1))
   case measure => omega
   case rel => exact ⟨kk + 1, by omega, by omega, by go_num, by rw [HS.out]; exact B22, by rw [HS.out]; exact V22, F22⟩
  ·have hltz : ¬ (kk : Int) < (wd : Int) := by omega
   obtain rfl : kk = wd := by omega
   go_wp2
   go_ret
   exact ⟨_, rfl, HBD.out, HV.out, HF.out⟩


-- HAND
/-! ### impl_Circuit_putNots: function 76 -/
-- IMPORT Derived.StillTailTactics
set_option maxHeartbeats 16000000 in
set_option maxRecDepth 100000 in
/-- A gate that denies, for each wire. -/
theorem impl_Circuit_putNots.calls (G base : Nat) (ins : Int) (ov : Value) (g : List S93) (A1 : Option Addr) (c1 : Nat) (a : List Int) (w : World) (hb : base ≤ w.heap.size) (HBD : Bd 27 G base ins ov w g) (ha : (∀ W', Fr 93 G base w W' → Kd.C (Kd.int .i64) W' A1 a.length a)) (hi0 : 0 ≤ ins) (hi1 : ins ≤ 1000000) (hl : g.length ≤ 900000) (hal : a.length ≤ 10000) :
  Calls Try.prog 76 #[.pointer (some ⟨G, 0, none⟩), .slice A1 a.length c1] w fun e w' => ∃ v : Value, e = .returned v ∧ Bd 27 G base ins ov w' (emitN ins (fun i => ⟨2, rd a i, 0⟩) g a.length).1 ∧ Kd.R (Kd.int .i64) 3 w' w.heap.size (fun k => k ≠ G) v (emitN ins (fun i => ⟨2, rd a i, 0⟩) g a.length).2 ∧ Fr 93 G base w w' := by
 have hGlt : G < w.heap.size := by obtain ⟨gv, hG, _⟩ := HBD; exact blk_lt hG
 have HBD0 := Aside0.mk HBD
 have Hha := Aside0.mk ha
 clear HBD ha
 have hu1 := Try.underlying25
 go_enter Try.func76, Try.ntmps76
 go_wp2
 have HV0 := Aside0.mk (R_fresh w 3 (fun k => k ≠ G) (by omega))
 have HBD1 := Aside0.mk (HBD0.out.alloc (.cells #[] 3))
 have HF1 := Aside0.mk ((Fr.refl 93 G base w).alloc (.cells #[] 3))
 go_loopg [5, 11] a.length (fun gg so si wr => ∃ kk : Nat, kk ≤ a.length ∧ a.length - kk ≤ gg ∧ si = .int .i64 kk ∧ Aside0 (Bd 27 G base ins ov wr (emitN ins (fun i => ⟨2, rd a i, 0⟩) g kk).1) ∧ Aside0 (Kd.R (Kd.int .i64) 3 wr w.heap.size (fun k => k ≠ G) so (emitN ins (fun i => ⟨2, rd a i, 0⟩) g kk).2) ∧ Aside0 (Fr 93 G base w wr))
 case atStart => exact ⟨0, Nat.zero_le _, by omega, rfl, HBD1, HV0, HF1⟩
 case round =>
  clear HBD0 HBD1 HV0 HF1
  obtain ⟨kk, hkk, hg, rfl, HBD, HV, HF⟩ := hrel
  have hlen := emitN_len ins (fun i => ⟨2, rd a i, 0⟩) g kk
  by_cases hlt : kk < a.length
  ·have hltz : (kk : Int) < (a.length : Int) := by omega
   have hs : emitN ins (fun i => ⟨2, rd a i, 0⟩) g (kk + 1) = ((emitN ins (fun i => ⟨2, rd a i, 0⟩) g kk).1 ++ [⟨2, rd a kk, 0⟩], (emitN ins (fun i => ⟨2, rd a i, 0⟩) g kk).2 ++ [(ins + ((emitN ins (fun i => ⟨2, rd a i, 0⟩) g kk).1.length : Int))]) := rfl
   obtain ⟨gs, hgs⟩ : ∃ q, (emitN ins (fun i => ⟨2, rd a i, 0⟩) g kk).1 = q := ⟨_, rfl⟩
   obtain ⟨os, hos⟩ : ∃ q, (emitN ins (fun i => ⟨2, rd a i, 0⟩) g kk).2 = q := ⟨_, rfl⟩
   rw [hgs, hos] at hlen hs
   rw [hgs] at HBD
   rw [hos] at HV
   clear hgs hos
   obtain ⟨hl1, hl2⟩ := hlen
   have hol : os.length ≤ 10000 := by omega
   have hgl : gs.length ≤ 950000 := by omega
   obtain ⟨d, hd⟩ : ∃ d, ins + (gs.length : Int) = d := ⟨_, rfl⟩
   rw [hd] at hs
   have hd0 : 0 ≤ d := by omega
   have hd1 : d ≤ 2000000 := by omega
   clear hl1 hl2
   obtain ⟨ad, e, hxa⟩ := Kd.at_int (Hha.out _ HF.out) (kk : Int) (by omega) hltz
   cases e
   rw [Int.toNat_natCast] at hxa
   obtain ⟨x, hx⟩ : ∃ x, rd a kk = x := ⟨_, rfl⟩
   rw [hx] at hs hxa
   have HX := Aside0.mk hx
   clear hx
   obtain ⟨g1, hg1⟩ : ∃ q, q = gs ++ [(⟨2, x, 0⟩ : S93)] := ⟨_, rfl⟩
   rw [← hg1] at hs
   have N0 := Aside0.mk (show d = ins + (gs.length : Int) by omega)
   have L0 : gs.length ≤ 1000000 := by omega
   have G1 := Aside0.mk hg1
   have tok1 : True := trivial
   have HS := Aside0.mk hs
   clear hs hd hg1
   clear hgl
   go_wp2_with (first
     | (go_at_call 101; have _t := tok1; refine (impl_Circuit_put.calls G base ins ov gs g1 2 x 0 d _ (Nat.le_trans hb HF.out.size) HBD.out hi0 hi1 L0 N0.out G1.out).mono ?_; rintro e w1 ⟨rfl, hbd, hf⟩; have B1 := Aside0.mk hbd; have F1 := Aside0.mk (HF.out.trans hf); have V1 := Aside0.mk (Fr.R hf HV.out (by decide) (fun _ hk => hk)); clear tok1 hbd hf hxa; have hxa := Fr.cellAt F1.out Hha.out hlt HX.out)
     | ((with_reducible refine gate_builtin (b := .append) (xs := #[.tmp 15, .tmp 19]) rfl ?_); at_builtin; refine Kd.R_append (Kd.int .i64) (w0 := w1) w.heap.size rfl (.tmp 15) (.tmp 19) 25 3 (.int .i64 0) 8 rfl Try.underlying25 info_int rfl (by decide) (by omega) _ os d [.int .i64 d] (fun k => k ≠ G) (fun _ => False) rfl (by first | (go_simp; done) | (go_simp; rfl)) ?aP (fun _ hk => hk.elim) ?aF ?aO ?aB ?aS ?aL ?_; (case aP => exact rfl); (case aF => intro k hk; have hsz_ := F1.out.size; omega); (case aO => exact V1.out); (case aB => exact Below.refl _ _); (case aS => exact F1.out.size); (case aL => omega); intro v22 w22 hv _ hg_ _; have V22 := Aside0.mk hv; have B22 := Aside0.mk (Bd.grown B1.out hg_ (Kd.R_typed V1.out) (by decide) (by decide)); have F22 := Aside0.mk (Fr.grown_new F1.out hg_ (own_ge V1.out)); clear hv hg_ hxa; have hxa := Fr.cellAt F22.out Hha.out hlt HX.out))
   go_roundg (a.length - (kk + 1))
   case measure => omega
   case rel => exact ⟨kk + 1, by omega, by omega, by go_num, by rw [HS.out]; exact B22, by rw [HS.out]; exact V22, F22⟩
  ·have hltz : ¬ (kk : Int) < (a.length : Int) := by omega
   obtain rfl : kk = a.length := by omega
   go_wp2
   go_ret
   exact ⟨_, rfl, HBD.out, HV.out, HF.out⟩


-- IMPORT Derived.Lib.SliceRun
/-! ### slices_Clone_int: function 78 -/
def slices_Clone_int.f (l0 : List Int) : Option (List Int) := (some (([] : List Int) : List Int)).bind fun y204 => (if y204.length + l0.length < 17592186044416 then (some (y204 ++ l0)) else (none))
set_option maxHeartbeats 8000000 in
set_option maxRecDepth 100000 in
theorem slices_Clone_int.calls (A0 : Option Addr) (c0 : Nat) (l0 : List Int) (r : List Int) (w : World) (hr0 : Kd.C (Kd.int .i64) w A0 l0.length l0) (hc0 : l0.length ≤ c0) (h : slices_Clone_int.f l0 = some r) :
  Calls Try.prog 78 #[.slice A0 l0.length c0] w fun e w' => ∃ v0_ : Value, e = .returned (v0_) ∧ Kd.R (Kd.int .i64) 3 w' w.heap.size (fun _ => True) v0_ r ∧ Below w.heap.size w w' := by
 have HR0 := Aside0.mk hr0
 have HC0 := Aside0.mk hc0
 clear hr0 hc0
 have HB := Aside0.mk (Below.refl w.heap.size w)
 have H : ((some (([] : List Int) : List Int)).bind fun y204 => (if y204.length + l0.length < 17592186044416 then (some (y204 ++ l0)) else (none))) = some r := h
 clear h
 rcases A0 with _ | ad_
 ·have hl0 : l0 = [] := by
   rcases l0 with _ | ⟨x, s⟩
   ·rfl
   ·obtain ⟨ad, e_, _⟩ := HR0.out.2.2 (by simp)
    cases e_
  obtain rfl : r = [] := by
   subst hl0
   simpa using H.symm
  subst hl0
  have heq_ := fun w : World => Go.Lib.run_eql_slice_nil (P := Try.prog) w 25 3 none 0 c0 0 0 Try.underlying25
  simp only [Option.isNone_none] at heq_
  clear H
  go_enter Try.func78, Try.ntmps78
  go_wp2
  go_ret
  exact ⟨.slice none 0 0, rfl, Kd.R_nil _ _ _ _ _, HB.out⟩
 ·skip
  have heq_ := fun w : World => Go.Lib.run_eql_slice_nil (P := Try.prog) w 25 3 (some ad_) l0.length c0 0 0 Try.underlying25
  simp only [Option.isNone_some] at heq_
  obtain ⟨y204, hy204⟩ : ∃ y_ : List Int, y_ = (([] : List Int)) := ⟨_, rfl⟩
  replace H : (if y204.length + l0.length < 17592186044416 then (some (y204 ++ l0)) else (none)) = some r := qY hy204 H
  have Ny204 := Aside0.mk hy204
  clear hy204
  by_cases c2 : y204.length + l0.length < 17592186044416
  ·rw [if_pos c2] at H
   have LMc2 := Aside0.mk c2
   clear c2
   obtain ⟨y207, hy207⟩ : ∃ y_ : List Int, y_ = (y204 ++ l0) := ⟨_, rfl⟩
   replace H : (some y207) = some r := qY hy207 H
   have Ny207 := Aside0.mk hy207
   clear hy207
   obtain rfl := Option.some.inj H
   go_enter Try.func78, Try.ntmps78
   go_wp2_with (first | ((with_reducible refine gate_dst (N := 5) rfl ?_); refine Kd.R_lit (Kd.int .i64) _ 3 ?hg (N := 5) ?hd (xs := ([] : List Int)) (inner := []) (ok := fun _ => True) (okp := fun _ => True) ?hr ?hp (fun _ hk => hk) trivial (Below.refl _ _) (Nat.le_refl _) (by simp) ?_; (case hd => rfl); (case hg => rfl); (case hr => first | (go_simp; done) | (go_simp; rfl)); (case hp => exact (Reps.none _ _)); intro v205 w3 ho4 hb hg_ hnew_; clear hg_ hnew_; (first | rw [← Ny204.out] at ho4 | (simp only [Int.reduceToNat] at ho4; rw [← Ny204.out] at ho4)); have n0_ := Aside0.mk (Kd.R_lower ho4 (below_size (qB))); have n1_ := Aside0.mk (below_step (qB) hb); clear HB; have HO206 := n0_; have HB := n1_; clear n0_ n1_; clear hb ho4) | ((with_reducible refine gate_builtin (b := .append) (xs := #[.tmp 5, .tmp 6]) rfl ?_); at_builtin; refine Kd.R_append_rows (Kd.int .i64) (w0 := w) w.heap.size rfl (.tmp 5) (.tmp 6) 25 3 (.int .i64 0) 8 rfl Try.underlying25 info3 rfl (by decide) (by omega) v205 y204 l0 _ _ _ (fun _ => True) (fun _ => False) rfl rfl ?aO ?aR (fun _ _ h => h) (fun _ h => h.elim) ?aF ?aB ?aS ?aL ?_; (case aR => exact qC (Kd.C_below HR0.out HB.out)); (case aB => exact (qB)); (case aF => exact (fun _ _ => trivial)); (case aO => exact (qR HO206.out)); (case aS => exact (below_size (qB))); (case aL => have := LMc2.out; omega); intro v208 w5 ho hb hg hat; rw [← Ny207.out] at ho; have n0_ := Aside0.mk (hb); have n1_ := Aside0.mk (ho); clear HB; clear HO206; have HB := n0_; have HO209 := n1_; clear n0_ n1_; clear ho hb hg hat))
   go_ret
   exact ⟨_, qE, qR HO209.out, qB⟩
  ·rw [if_neg c2] at H
   exact absurd H (by simp)


-- HAND
/-! ### impl_Circuit_putEach: function 102 -/
-- IMPORT Derived.StillTailTactics
set_option maxHeartbeats 16000000 in
set_option maxRecDepth 100000 in
/-- A gate for each position. -/
theorem impl_Circuit_putEach.calls (G base : Nat) (ins : Int) (ov : Value) (g : List S93) (kd : Int) (A1 A2 : Option Addr) (c1 c2 : Nat) (a b : List Int) (w : World) (hb : base ≤ w.heap.size) (HBD : Bd 27 G base ins ov w g) (ha : (∀ W', Fr 93 G base w W' → Kd.C (Kd.int .i64) W' A1 a.length a)) (hb2 : (∀ W', Fr 93 G base w W' → Kd.C (Kd.int .i64) W' A2 b.length b)) (hi0 : 0 ≤ ins) (hi1 : ins ≤ 1000000) (hl : g.length ≤ 900000) (hal : a.length ≤ 10000) (hbl : b.length = a.length) :
  Calls Try.prog 102 #[.pointer (some ⟨G, 0, none⟩), .int .i64 kd, .slice A1 a.length c1, .slice A2 b.length c2] w fun e w' => ∃ v : Value, e = .returned v ∧ Bd 27 G base ins ov w' (emitN ins (fun i => ⟨kd, rd a i, rd b i⟩) g a.length).1 ∧ Kd.R (Kd.int .i64) 3 w' w.heap.size (fun k => k ≠ G) v (emitN ins (fun i => ⟨kd, rd a i, rd b i⟩) g a.length).2 ∧ Fr 93 G base w w' := by
 have hGlt : G < w.heap.size := by obtain ⟨gv, hG, _⟩ := HBD; exact blk_lt hG
 have HBD0 := Aside0.mk HBD
 have Hha := Aside0.mk ha
 have Hhb2 := Aside0.mk hb2
 have HBL := Aside0.mk hbl
 clear HBD ha hb2 hbl
 have hu1 := Try.underlying25
 go_enter Try.func102, Try.ntmps102
 go_wp2
 have HV0 := Aside0.mk (R_fresh w 3 (fun k => k ≠ G) (by omega))
 have HBD1 := Aside0.mk (HBD0.out.alloc (.cells #[] 3))
 have HF1 := Aside0.mk ((Fr.refl 93 G base w).alloc (.cells #[] 3))
 go_loopg [9, 14] a.length (fun gg so si wr => ∃ kk : Nat, kk ≤ a.length ∧ a.length - kk ≤ gg ∧ si = .int .i64 kk ∧ Aside0 (Bd 27 G base ins ov wr (emitN ins (fun i => ⟨kd, rd a i, rd b i⟩) g kk).1) ∧ Aside0 (Kd.R (Kd.int .i64) 3 wr w.heap.size (fun k => k ≠ G) so (emitN ins (fun i => ⟨kd, rd a i, rd b i⟩) g kk).2) ∧ Aside0 (Fr 93 G base w wr))
 case atStart => exact ⟨0, Nat.zero_le _, by omega, rfl, HBD1, HV0, HF1⟩
 case round =>
  clear HBD0 HBD1 HV0 HF1
  obtain ⟨kk, hkk, hg, rfl, HBD, HV, HF⟩ := hrel
  have hlen := emitN_len ins (fun i => ⟨kd, rd a i, rd b i⟩) g kk
  by_cases hlt : kk < a.length
  ·have hltz : (kk : Int) < (a.length : Int) := by omega
   have hs : emitN ins (fun i => ⟨kd, rd a i, rd b i⟩) g (kk + 1) = ((emitN ins (fun i => ⟨kd, rd a i, rd b i⟩) g kk).1 ++ [⟨kd, rd a kk, rd b kk⟩], (emitN ins (fun i => ⟨kd, rd a i, rd b i⟩) g kk).2 ++ [(ins + ((emitN ins (fun i => ⟨kd, rd a i, rd b i⟩) g kk).1.length : Int))]) := rfl
   obtain ⟨gs, hgs⟩ : ∃ q, (emitN ins (fun i => ⟨kd, rd a i, rd b i⟩) g kk).1 = q := ⟨_, rfl⟩
   obtain ⟨os, hos⟩ : ∃ q, (emitN ins (fun i => ⟨kd, rd a i, rd b i⟩) g kk).2 = q := ⟨_, rfl⟩
   rw [hgs, hos] at hlen hs
   rw [hgs] at HBD
   rw [hos] at HV
   clear hgs hos
   obtain ⟨hl1, hl2⟩ := hlen
   have hol : os.length ≤ 10000 := by omega
   have hgl : gs.length ≤ 950000 := by omega
   obtain ⟨d, hd⟩ : ∃ d, ins + (gs.length : Int) = d := ⟨_, rfl⟩
   rw [hd] at hs
   have hd0 : 0 ≤ d := by omega
   have hd1 : d ≤ 2000000 := by omega
   clear hl1 hl2
   obtain ⟨ad, e, hxa⟩ := Kd.at_int (Hha.out _ HF.out) (kk : Int) (by omega) hltz
   cases e
   rw [Int.toNat_natCast] at hxa
   have hltb : kk < b.length := by have := HBL.out; omega
   obtain ⟨ae, e, hya⟩ := Kd.at_int (Hhb2.out _ HF.out) (kk : Int) (by omega) (by omega)
   cases e
   rw [Int.toNat_natCast] at hya
   obtain ⟨x, hx⟩ : ∃ x, rd a kk = x := ⟨_, rfl⟩
   rw [hx] at hs hxa
   obtain ⟨y, hy⟩ : ∃ y, rd b kk = y := ⟨_, rfl⟩
   rw [hy] at hs hya
   have HX := Aside0.mk hx
   have HY := Aside0.mk hy
   clear hx hy
   obtain ⟨g1, hg1⟩ : ∃ q, q = gs ++ [(⟨kd, x, y⟩ : S93)] := ⟨_, rfl⟩
   rw [← hg1] at hs
   have N0 := Aside0.mk (show d = ins + (gs.length : Int) by omega)
   have L0 : gs.length ≤ 1000000 := by omega
   have G1 := Aside0.mk hg1
   have tok1 : True := trivial
   have HS := Aside0.mk hs
   clear hs hd hg1
   clear hgl
   go_wp2
   have BD1 := Aside0.mk (HBD.out.drew)
   have FD1 := Aside0.mk (HF.out.drew)
   have VD1 := Aside0.mk (Kd.R_drew HV.out)
   go_region_held3 (fun w' => w'.cell? (ad.add kk) = some (.int .i64 x) ∧ w'.cell? (ae.add kk) = some (.int .i64 y)) (first | exact ⟨hxa, hya⟩ | exact ⟨bd_cell_new hxa _, bd_cell_new hya _⟩ | go_keep) (first | (go_at_call 101; have _t := tok1; refine (impl_Circuit_put.calls G base ins ov gs g1 kd x y d _ (Nat.le_trans hb FD1.out.size) BD1.out hi0 hi1 L0 N0.out G1.out).mono ?_; rintro e w1 ⟨rfl, hbd, hf⟩; have B1 := Aside0.mk hbd; have F1 := Aside0.mk (FD1.out.trans hf); have V1 := Aside0.mk (Fr.R hf VD1.out (by decide) (fun _ hk => hk)); clear tok1 hbd hf hxa hya; have hxa := Fr.cellAt F1.out Hha.out hlt HX.out; have hya := Fr.cellAt F1.out Hhb2.out hltb HY.out) | (refine Kd.R_append_step (Kd.int .i64) (w0 := w1) w.heap.size (by rfl) (.tmp 17) (.tmp 29) 25 3 (.int .i64 0) 8 rfl Try.underlying25 info_int rfl (by decide) (by omega) _ os d [.int .i64 d] (fun k => k ≠ G) (fun _ => False) rfl (by first | (go_simp; done) | (go_simp; rfl)) ?aP (fun _ hk => hk.elim) ?aF ?aO ?aB ?aS ?aL ?_; (case aP => exact rfl); (case aF => intro k hk; have hsz_ := F1.out.size; omega); (case aO => exact V1.out); (case aB => exact Below.refl _ _); (case aS => exact F1.out.size); (case aL => omega); intro v22 w22 hv _ hg_ _; have V22 := Aside0.mk hv; have B22 := Aside0.mk (Bd.grown B1.out hg_ (Kd.R_typed V1.out) (by decide) (by decide)); have F22 := Aside0.mk (Fr.grown_new F1.out hg_ (own_ge V1.out)); clear hv hg_ hxa hya; have hxa := Fr.cellAt F22.out Hha.out hlt HX.out; have hya := Fr.cellAt F22.out Hhb2.out hltb HY.out))
   go_wp2
   go_roundg (a.length - (kk + 1))
   case measure => omega
   case rel => exact ⟨kk + 1, by omega, by omega, by go_num, by rw [HS.out]; exact B22, by rw [HS.out]; exact V22, F22⟩
  ·have hltz : ¬ (kk : Int) < (a.length : Int) := by omega
   obtain rfl : kk = a.length := by omega
   go_wp2
   go_ret
   exact ⟨_, rfl, HBD.out, HV.out, HF.out⟩


-- HAND
/-! ### impl_Circuit_putAdd: function 103 -/
-- IMPORT Derived.StillTailTactics
set_option maxHeartbeats 16000000 in
set_option maxRecDepth 100000 in
/-- An adder that is put: its wires, and the circuit behind it. -/
theorem impl_Circuit_putAdd.calls (G base : Nat) (ins : Int) (ov : Value) (g : List S93) (A1 A2 : Option Addr) (c1 c2 : Nat) (a b : List Int) (cr : Int) (w : World) (hb : base ≤ w.heap.size) (HBD : Bd 27 G base ins ov w g) (ha : (∀ W', Fr 93 G base w W' → Kd.C (Kd.int .i64) W' A1 a.length a)) (hb2 : (∀ W', Fr 93 G base w W' → Kd.C (Kd.int .i64) W' A2 b.length b)) (hi0 : 0 ≤ ins) (hi1 : ins ≤ 1000000) (hl : g.length ≤ 900000) (hal : a.length ≤ 10000) (hbl : b.length = a.length) :
  Calls Try.prog 103 #[.pointer (some ⟨G, 0, none⟩), .slice A1 a.length c1, .slice A2 b.length c2, .int .i64 cr] w fun e w' => ∃ v : Value, e = .returned v ∧ Bd 27 G base ins ov w' (addN ins a b cr g a.length).1 ∧ Kd.R (Kd.int .i64) 3 w' w.heap.size (fun k => k ≠ G) v (addN ins a b cr g a.length).2.1 ∧ Fr 93 G base w w' := by
 have hGlt : G < w.heap.size := by obtain ⟨gv, hG, _⟩ := HBD; exact blk_lt hG
 have HBD0 := Aside0.mk HBD
 have Hha := Aside0.mk ha
 have Hhb2 := Aside0.mk hb2
 have HBL := Aside0.mk hbl
 clear HBD ha hb2 hbl
 have hu1 := Try.underlying25
 go_enter Try.func103, Try.ntmps103
 go_wp2
 have HV0 := Aside0.mk (R_fresh w 3 (fun k => k ≠ G) (by omega))
 have HBD1 := Aside0.mk (HBD0.out.alloc (.cells #[] 3))
 have HF1 := Aside0.mk ((Fr.refl 93 G base w).alloc (.cells #[] 3))
 go_loopg [3, 9, 17] a.length (fun gg s3 so si wr => ∃ kk : Nat, kk ≤ a.length ∧ a.length - kk ≤ gg ∧ s3 = .int .i64 (addN ins a b cr g kk).2.2 ∧ si = .int .i64 kk ∧ Aside0 (Bd 27 G base ins ov wr (addN ins a b cr g kk).1) ∧ Aside0 (Kd.R (Kd.int .i64) 3 wr w.heap.size (fun k => k ≠ G) so (addN ins a b cr g kk).2.1) ∧ Aside0 (Fr 93 G base w wr))
 case atStart => exact ⟨0, Nat.zero_le _, by omega, rfl, rfl, HBD1, HV0, HF1⟩
 case round =>
  clear HBD0 HBD1 HV0 HF1
  obtain ⟨kk, hkk, hg, rfl, rfl, HBD, HV, HF⟩ := hrel
  have hlen := addN_len ins a b cr g kk
  by_cases hlt : kk < a.length
  ·have hltz : (kk : Int) < (a.length : Int) := by omega
   have hs : addN ins a b cr g (kk + 1) = ((addN ins a b cr g kk).1 ++ [⟨5, rd a kk, rd b kk⟩] ++ [⟨5, (ins + ((addN ins a b cr g kk).1.length : Int)), (addN ins a b cr g kk).2.2⟩] ++ [⟨3, rd a kk, rd b kk⟩] ++ [⟨3, (ins + ((addN ins a b cr g kk).1.length : Int)), (addN ins a b cr g kk).2.2⟩] ++ [⟨4, (ins + ((addN ins a b cr g kk).1.length : Int)) + 2, (ins + ((addN ins a b cr g kk).1.length : Int)) + 3⟩], (addN ins a b cr g kk).2.1 ++ [(ins + ((addN ins a b cr g kk).1.length : Int)) + 1], (ins + ((addN ins a b cr g kk).1.length : Int)) + 4) := rfl
   obtain ⟨gs, hgs⟩ : ∃ q, (addN ins a b cr g kk).1 = q := ⟨_, rfl⟩
   obtain ⟨os, hos⟩ : ∃ q, (addN ins a b cr g kk).2.1 = q := ⟨_, rfl⟩
   obtain ⟨cs, hcs⟩ : ∃ q, (addN ins a b cr g kk).2.2 = q := ⟨_, rfl⟩
   rw [hgs, hos] at hlen
   rw [hgs, hos, hcs] at hs
   rw [hgs] at HBD
   rw [hos] at HV
   rw [hcs]
   clear hgs hos hcs
   obtain ⟨hl1, hl2⟩ := hlen
   have hol : os.length ≤ 10000 := by omega
   have hgl : gs.length ≤ 950000 := by omega
   obtain ⟨d, hd⟩ : ∃ d, ins + (gs.length : Int) = d := ⟨_, rfl⟩
   rw [hd] at hs
   have hd0 : 0 ≤ d := by omega
   have hd1 : d ≤ 2000000 := by omega
   clear hl1 hl2
   obtain ⟨ad, e, hxa⟩ := Kd.at_int (Hha.out _ HF.out) (kk : Int) (by omega) hltz
   cases e
   rw [Int.toNat_natCast] at hxa
   have hltb : kk < b.length := by have := HBL.out; omega
   obtain ⟨ae, e, hya⟩ := Kd.at_int (Hhb2.out _ HF.out) (kk : Int) (by omega) (by omega)
   cases e
   rw [Int.toNat_natCast] at hya
   obtain ⟨x, hx⟩ : ∃ x, rd a kk = x := ⟨_, rfl⟩
   rw [hx] at hs hxa
   obtain ⟨y, hy⟩ : ∃ y, rd b kk = y := ⟨_, rfl⟩
   rw [hy] at hs hya
   have HX := Aside0.mk hx
   have HY := Aside0.mk hy
   clear hx hy
   obtain ⟨g1, hg1⟩ : ∃ q, q = gs ++ [(⟨5, x, y⟩ : S93)] := ⟨_, rfl⟩
   obtain ⟨g2, hg2⟩ : ∃ q, q = g1 ++ [(⟨5, d, cs⟩ : S93)] := ⟨_, rfl⟩
   obtain ⟨g3, hg3⟩ : ∃ q, q = g2 ++ [(⟨3, x, y⟩ : S93)] := ⟨_, rfl⟩
   obtain ⟨g4, hg4⟩ : ∃ q, q = g3 ++ [(⟨3, d, cs⟩ : S93)] := ⟨_, rfl⟩
   obtain ⟨g5, hg5⟩ : ∃ q, q = g4 ++ [(⟨4, (d + 2), (d + 3)⟩ : S93)] := ⟨_, rfl⟩
   rw [← hg1, ← hg2, ← hg3, ← hg4, ← hg5] at hs
   have n1 : (g1.length : Int) = gs.length + 1 := by rw [hg1]; simp; try omega
   have n2 : (g2.length : Int) = gs.length + 2 := by rw [hg2]; simp; try omega
   have n3 : (g3.length : Int) = gs.length + 3 := by rw [hg3]; simp; try omega
   have n4 : (g4.length : Int) = gs.length + 4 := by rw [hg4]; simp; try omega
   have N0 := Aside0.mk (show d = ins + (gs.length : Int) by omega)
   have L0 : gs.length ≤ 1000000 := by omega
   have N1 := Aside0.mk (show (d + 1) = ins + (g1.length : Int) by omega)
   have L1 : g1.length ≤ 1000000 := by omega
   have N2 := Aside0.mk (show (d + 2) = ins + (g2.length : Int) by omega)
   have L2 : g2.length ≤ 1000000 := by omega
   have N3 := Aside0.mk (show (d + 3) = ins + (g3.length : Int) by omega)
   have L3 : g3.length ≤ 1000000 := by omega
   have N4 := Aside0.mk (show (d + 4) = ins + (g4.length : Int) by omega)
   have L4 : g4.length ≤ 1000000 := by omega
   have G1 := Aside0.mk hg1
   have tok1 : True := trivial
   have G2 := Aside0.mk hg2
   have tok2 : True := trivial
   have G3 := Aside0.mk hg3
   have tok3 : True := trivial
   have G4 := Aside0.mk hg4
   have tok4 : True := trivial
   have G5 := Aside0.mk hg5
   have tok5 : True := trivial
   have HS := Aside0.mk hs
   clear hs hd hg1 hg2 hg3 hg4 hg5 n1 n2 n3 n4
   clear hgl
   go_wp2
   go_still_tail 9, (by kernel_rfl)
   change wpList _ _ _ _ _ wr.drew
   have BD1 := Aside0.mk (HBD.out.drew)
   have FD1 := Aside0.mk (HF.out.drew)
   have VD1 := Aside0.mk (Kd.R_drew HV.out)
   clear hxa hya
   generalize wr.drew = W1 at BD1 FD1 VD1 ⊢
   have hxa := Fr.cellAt FD1.out Hha.out hlt HX.out
   have hya := Fr.cellAt FD1.out Hhb2.out hltb HY.out
   go_wp2_with (first
     | (go_at_call 101; have _t := tok1; refine (impl_Circuit_put.calls G base ins ov gs g1 5 x y d _ (Nat.le_trans hb FD1.out.size) BD1.out hi0 hi1 L0 N0.out G1.out).mono ?_; rintro e w1 ⟨rfl, hbd, hf⟩; have B1 := Aside0.mk hbd; have F1 := Aside0.mk (FD1.out.trans hf); have V1 := Aside0.mk (Fr.R hf VD1.out (by decide) (fun _ hk => hk)); clear tok1 hbd hf hxa hya; have hxa := Fr.cellAt F1.out Hha.out hlt HX.out; have hya := Fr.cellAt F1.out Hhb2.out hltb HY.out)
     | (go_at_call 101; have _t := tok2; refine (impl_Circuit_put.calls G base ins ov g1 g2 5 d cs (d + 1) _ (Nat.le_trans hb F1.out.size) B1.out hi0 hi1 L1 N1.out G2.out).mono ?_; rintro e w2 ⟨rfl, hbd, hf⟩; have B2 := Aside0.mk hbd; have F2 := Aside0.mk (F1.out.trans hf); have V2 := Aside0.mk (Fr.R hf V1.out (by decide) (fun _ hk => hk)); clear tok2 hbd hf hxa hya; have hxa := Fr.cellAt F2.out Hha.out hlt HX.out; have hya := Fr.cellAt F2.out Hhb2.out hltb HY.out)
     | ((with_reducible refine gate_builtin (b := .append) (xs := #[.tmp 30, .tmp 35]) rfl ?_); at_builtin; refine Kd.R_append (Kd.int .i64) (w0 := w2) w.heap.size rfl (.tmp 30) (.tmp 35) 25 3 (.int .i64 0) 8 rfl Try.underlying25 info_int rfl (by decide) (by omega) _ os (d + 1) [.int .i64 (d + 1)] (fun k => k ≠ G) (fun _ => False) rfl (by first | (go_simp; done) | (go_simp; rfl)) ?aP (fun _ hk => hk.elim) ?aF ?aO ?aB ?aS ?aL ?_; (case aP => exact rfl); (case aF => intro k hk; have hsz_ := F2.out.size; omega); (case aO => exact V2.out); (case aB => exact Below.refl _ _); (case aS => exact F2.out.size); (case aL => omega); intro v22 w22 hv _ hg_ _; have V22 := Aside0.mk hv; have B22 := Aside0.mk (Bd.grown B2.out hg_ (Kd.R_typed V2.out) (by decide) (by decide)); have F22 := Aside0.mk (Fr.grown_new F2.out hg_ (own_ge V2.out)); clear hv hg_ hxa hya; have hxa := Fr.cellAt F22.out Hha.out hlt HX.out; have hya := Fr.cellAt F22.out Hhb2.out hltb HY.out))
   go_still_tail 9, (by kernel_rfl)
   change wpList _ _ _ _ _ w22.drew
   have BD2 := Aside0.mk (B22.out.drew)
   have FD2 := Aside0.mk (F22.out.drew)
   have VD2 := Aside0.mk (Kd.R_drew V22.out)
   clear hxa hya
   generalize w22.drew = W2 at BD2 FD2 VD2 ⊢
   have hxa := Fr.cellAt FD2.out Hha.out hlt HX.out
   have hya := Fr.cellAt FD2.out Hhb2.out hltb HY.out
   go_wp2_with (first
     | (go_at_call 101; have _t := tok3; refine (impl_Circuit_put.calls G base ins ov g2 g3 3 x y (d + 2) _ (Nat.le_trans hb FD2.out.size) BD2.out hi0 hi1 L2 N2.out G3.out).mono ?_; rintro e w3 ⟨rfl, hbd, hf⟩; have B3 := Aside0.mk hbd; have F3 := Aside0.mk (FD2.out.trans hf); have V3 := Aside0.mk (Fr.R hf VD2.out (by decide) (fun _ hk => hk)); clear tok3 hbd hf hxa hya; have hxa := Fr.cellAt F3.out Hha.out hlt HX.out; have hya := Fr.cellAt F3.out Hhb2.out hltb HY.out)
     | (go_at_call 101; have _t := tok4; refine (impl_Circuit_put.calls G base ins ov g3 g4 3 d cs (d + 3) _ (Nat.le_trans hb F3.out.size) B3.out hi0 hi1 L3 N3.out G4.out).mono ?_; rintro e w4 ⟨rfl, hbd, hf⟩; have B4 := Aside0.mk hbd; have F4 := Aside0.mk (F3.out.trans hf); have V4 := Aside0.mk (Fr.R hf V3.out (by decide) (fun _ hk => hk)); clear tok4 hbd hf hxa hya; have hxa := Fr.cellAt F4.out Hha.out hlt HX.out; have hya := Fr.cellAt F4.out Hhb2.out hltb HY.out)
     | (go_at_call 101; have _t := tok5; refine (impl_Circuit_put.calls G base ins ov g4 g5 4 (d + 2) (d + 3) (d + 4) _ (Nat.le_trans hb F4.out.size) B4.out hi0 hi1 L4 N4.out G5.out).mono ?_; rintro e w5 ⟨rfl, hbd, hf⟩; have B5 := Aside0.mk hbd; have F5 := Aside0.mk (F4.out.trans hf); have V5 := Aside0.mk (Fr.R hf V4.out (by decide) (fun _ hk => hk)); clear tok5 hbd hf hxa hya; have hxa := Fr.cellAt F5.out Hha.out hlt HX.out; have hya := Fr.cellAt F5.out Hhb2.out hltb HY.out))
   go_roundg (a.length - (kk + 1))
   case measure => omega
   case rel => exact ⟨kk + 1, by omega, by omega, by rw [HS.out], by go_num, by rw [HS.out]; exact B5, by rw [HS.out]; exact V5, F5⟩
  ·have hltz : ¬ (kk : Int) < (a.length : Int) := by omega
   obtain rfl : kk = a.length := by omega
   go_wp2
   go_ret
   exact ⟨_, rfl, HBD.out, HV.out, HF.out⟩


-- HAND
/-! ### impl_Circuit_putMul: function 104 -/
-- IMPORT Derived.StillTailTactics
set_option maxHeartbeats 16000000 in
set_option maxRecDepth 100000 in
/-- A multiplier that is put: its wires, and the circuit behind it. -/
theorem impl_Circuit_putMul.calls (G base : Nat) (ins : Int) (ov : Value) (g : List S93) (A1 A2 : Option Addr) (c1 c2 : Nat) (a b : List Int) (w : World) (hb : base ≤ w.heap.size) (HBD : Bd 27 G base ins ov w g) (ha : (∀ W', Fr 93 G base w W' → Kd.C (Kd.int .i64) W' A1 a.length a)) (hb2 : (∀ W', Fr 93 G base w W' → Kd.C (Kd.int .i64) W' A2 b.length b)) (hi0 : 0 ≤ ins) (hi1 : ins ≤ 1000000) (hl : g.length ≤ 900000) (hlm : g.length ≤ 800000) (hal : a.length ≤ 50) (hbl : b.length = a.length) :
  Calls Try.prog 104 #[.pointer (some ⟨G, 0, none⟩), .slice A1 a.length c1, .slice A2 b.length c2] w fun e w' => ∃ v : Value, e = .returned v ∧ Bd 27 G base ins ov w' (mulN ins a b g b.length).1 ∧ Kd.R (Kd.int .i64) 3 w' w.heap.size (fun k => k ≠ G) v (mulN ins a b g b.length).2 ∧ Fr 93 G base w w' := by
 have hGlt : G < w.heap.size := by obtain ⟨gv, hG, _⟩ := HBD; exact blk_lt hG
 have HBD0 := Aside0.mk HBD
 have Hha := Aside0.mk ha
 have Hhb2 := Aside0.mk hb2
 have HBL := Aside0.mk hbl
 clear HBD ha hb2 hbl
 have hu1 := Try.underlying25
 have tok0 : True := trivial
 have tokA : True := trivial
 go_enter Try.func104, Try.ntmps104
 go_wp2_with (go_at_call 75; have _t := tok0; refine (impl_Circuit_putBits.calls G base ins ov g 0 a.length w hb HBD0.out hi0 hi1 hl (by omega) (by omega) (by omega)).mono ?_; rintro e w0 ⟨v0, rfl, hbd, hv, hf⟩; have B0 := Aside0.mk hbd; have V0 := Aside0.mk hv; have F0 := Aside0.mk hf; clear tok0 hbd hv hf)
 have HZ := Aside0.mk (show emitN ins (fun i => ⟨1, bitv 0 i, 0⟩) g a.length = mulN ins a b g 0 from by simp only [bitv_zero]; rfl)
 rw [HZ.out] at B0 V0
 clear HZ
 go_loopg [7, 18] b.length (fun gg so si wr => ∃ kk : Nat, kk ≤ b.length ∧ b.length - kk ≤ gg ∧ si = .int .i64 kk ∧ Aside0 (Bd 27 G base ins ov wr (mulN ins a b g kk).1) ∧ Aside0 (Kd.R (Kd.int .i64) 3 wr w.heap.size (fun k => k ≠ G) so (mulN ins a b g kk).2) ∧ Aside0 (Fr 93 G base w wr))
 case atStart => exact ⟨0, Nat.zero_le _, by omega, rfl, B0, V0, F0⟩
 case round =>
  clear HBD0 B0 V0 F0
  obtain ⟨kk, hkk, hg, rfl, HBD, HV, HF⟩ := hrel
  have hlen := mulN_len ins a b g kk
  by_cases hlt : kk < b.length
  ·have hltz : (kk : Int) < (b.length : Int) := by omega
   have hs : mulN ins a b g (kk + 1) = ((addN ins (mulN ins a b g kk).2 (emitN ins (mulF a b kk) (mulN ins a b g kk).1 a.length).2 (ins + ((emitN ins (mulF a b kk) (mulN ins a b g kk).1 a.length).1.length : Int)) ((emitN ins (mulF a b kk) (mulN ins a b g kk).1 a.length).1 ++ [⟨1, 0, 0⟩]) (mulN ins a b g kk).2.length).1, (addN ins (mulN ins a b g kk).2 (emitN ins (mulF a b kk) (mulN ins a b g kk).1 a.length).2 (ins + ((emitN ins (mulF a b kk) (mulN ins a b g kk).1 a.length).1.length : Int)) ((emitN ins (mulF a b kk) (mulN ins a b g kk).1 a.length).1 ++ [⟨1, 0, 0⟩]) (mulN ins a b g kk).2.length).2.1) := rfl
   have hkl : kk * (6 * a.length + 1) ≤ 50 * (6 * 50 + 1) := Nat.mul_le_mul (by have := HBL.out; omega) (by omega)
   obtain ⟨gs, hgs⟩ : ∃ q, (mulN ins a b g kk).1 = q := ⟨_, rfl⟩
   obtain ⟨ss, hss⟩ : ∃ q, (mulN ins a b g kk).2 = q := ⟨_, rfl⟩
   rw [hgs, hss] at hlen hs
   rw [hgs] at HBD
   rw [hss] at HV
   clear hgs hss
   obtain ⟨hl1, hl2⟩ := hlen
   have hgl : gs.length ≤ 820000 := by omega
   clear hl1 hkl
   have HSS := Aside0.mk hl2
   have HSL : ss.length ≤ 10000 := by omega
   clear hl2
   obtain ⟨A7, c7, rfl⟩ := Kd.R_slice HV.out
   have HS := Aside0.mk hs
   clear hs
   obtain ⟨y, hy⟩ : ∃ y, rd b kk = y := ⟨_, rfl⟩
   have HY := Aside0.mk hy
   clear hy
   have HKK := Aside0.mk hkk
   have hkb : kk ≤ 50 := by have := HBL.out; omega
   clear hkk
   obtain ⟨ae, e, hya0⟩ := Kd.at_int (Hhb2.out _ HF.out) (kk : Int) (by omega) hltz
   cases e
   clear hya0
   have hszr := HF.out.size
   go_wp2
   obtain ⟨N5, hN5⟩ : ∃ q, wr.heap.size = q := ⟨_, rfl⟩
   have P0 := Aside0.mk (R_fresh wr 3 (fun k => k ≠ G) (by omega))
   have Q0 := Aside0.mk (Kd.R_alloc (R_till HV.out) (.cells #[] 3))
   have B5 := Aside0.mk (HBD.out.alloc (.cells #[] 3))
   have F5 := Aside0.mk (HF.out.alloc (.cells #[] 3))
   simp only [hN5] at P0 Q0 ⊢
   have HN5 := Aside0.mk hN5
   have hN5l : w.heap.size ≤ N5 := by omega
   have hN5G : G < N5 := by omega
   clear hN5 HBD HF
   go_loopg [9, 24] a.length (fun gg so si wr => ∃ ii : Nat, ii ≤ a.length ∧ a.length - ii ≤ gg ∧ si = .int .i64 ii ∧ Aside0 (Bd 27 G base ins ov wr (emitN ins (mulF a b kk) gs ii).1) ∧ Aside0 (Kd.R (Kd.int .i64) 3 wr N5 (fun k => k ≠ G) so (emitN ins (mulF a b kk) gs ii).2) ∧ Aside0 (Kd.R (Kd.int .i64) 3 wr w.heap.size (fun k => k ≠ G ∧ k < N5) (.slice A7 ss.length c7) ss) ∧ Aside0 (Fr 93 G base w wr) ∧ N5 ≤ wr.heap.size)
   case atStart => exact ⟨0, Nat.zero_le _, by omega, rfl, B5, P0, Q0, F5, by have hn_ := HN5.out; first | omega | (simp; omega)⟩
   case round =>
    clear B5 P0 Q0 F5
    obtain ⟨ii, hii, hg2, rfl, HBD, HP, HQ, HF, hsz5⟩ := hrel
    have hlen := emitN_len ins (mulF a b kk) gs ii
    by_cases hlt2 : ii < a.length
    ·have hlt2z : (ii : Int) < (a.length : Int) := by omega
     have hs2 : emitN ins (mulF a b kk) gs (ii + 1) = ((emitN ins (mulF a b kk) gs ii).1 ++ [mulF a b kk ii], (emitN ins (mulF a b kk) gs ii).2 ++ [ins + ((emitN ins (mulF a b kk) gs ii).1.length : Int)]) := rfl
     obtain ⟨gt, hgt⟩ : ∃ q, (emitN ins (mulF a b kk) gs ii).1 = q := ⟨_, rfl⟩
     obtain ⟨os, hos⟩ : ∃ q, (emitN ins (mulF a b kk) gs ii).2 = q := ⟨_, rfl⟩
     rw [hgt, hos] at hlen hs2
     rw [hgt] at HBD
     rw [hos] at HP
     clear hgt hos
     obtain ⟨hl1, hl2⟩ := hlen
     have hol : os.length ≤ 10000 := by omega
     have L0 : gt.length ≤ 1000000 := by omega
     obtain ⟨d, hd⟩ : ∃ d, ins + (gt.length : Int) = d := ⟨_, rfl⟩
     rw [hd] at hs2
     have N0 := Aside0.mk hd.symm
     have hd0 : 0 ≤ d := by omega
     have hd1 : d ≤ 2000000 := by omega
     clear hl1 hl2 hd
     by_cases hik : ii < kk
     ·have hikz : (ii : Int) < (kk : Int) := by omega
      have hd2 : decide (ii < kk) = true := decide_eq_true hik
      have hd3 : decide ((ii : Int) < (kk : Int)) = true := decide_eq_true hikz
      obtain ⟨g1, hg1⟩ : ∃ q, q = gt ++ [(⟨1, 0, 0⟩ : S93)] := ⟨_, rfl⟩
      rw [show mulF a b kk ii = ⟨1, 0, 0⟩ from if_pos hik, ← hg1] at hs2
      have HS2 := Aside0.mk hs2
      have G1 := Aside0.mk hg1
      have tok1 : True := trivial
      clear hs2 hg1
      go_wp2_with (first | (go_at_call 101; have _t := tok1; refine (impl_Circuit_put.calls G base ins ov gt g1 1 0 0 d _ (Nat.le_trans hb HF.out.size) HBD.out hi0 hi1 L0 N0.out G1.out).mono ?_; rintro e w1 ⟨rfl, hbd, hf⟩; have B1 := Aside0.mk hbd; have F1 := Aside0.mk (HF.out.trans hf); have hsz1 : N5 ≤ w1.heap.size := Nat.le_trans hsz5 hf.size; have P1 := Aside0.mk (Fr.R hf HP.out (by decide) (fun _ hk => hk)); have Q1 := Aside0.mk (Fr.R hf HQ.out (by decide) (fun _ hk => hk.1)); clear tok1 hbd hf) | ((with_reducible refine gate_builtin (b := .append) (xs := #[.tmp 30, .tmp 33]) rfl ?_); at_builtin; refine Kd.R_append (Kd.int .i64) (w0 := w1) N5 rfl (.tmp 30) (.tmp 33) 25 3 (.int .i64 0) 8 rfl Try.underlying25 info_int rfl (by decide) (by omega) _ os d [.int .i64 d] (fun k => k ≠ G) (fun _ => False) rfl (by first | (go_simp; done) | (go_simp; rfl)) ?aP (fun _ hk => hk.elim) ?aF ?aO ?aB ?aS ?aL ?_; (case aP => exact rfl); (case aF => intro k hk; omega); (case aO => exact P1.out); (case aB => exact Below.refl _ _); (case aS => exact hsz1); (case aL => omega); intro v22 w22 hv _ hg_ _; have P22 := Aside0.mk hv; have Q22 := Aside0.mk (R_old_grown Q1.out hg_ (own_ge P1.out)); have B22 := Aside0.mk (Bd.grown B1.out hg_ (Kd.R_typed P1.out) (by decide) (by decide)); have F22 := Aside0.mk (Fr.grown_new F1.out hg_ (fun k e_ => Nat.le_trans hN5l (own_ge P1.out k e_))); have hsz22 : N5 ≤ w22.heap.size := Nat.le_trans hsz1 hg_.size; clear hv hg_))
      go_roundg (a.length - (ii + 1))
      case measure => omega
      case rel => exact ⟨ii + 1, by omega, by omega, by go_num, by rw [HS2.out]; exact B22, by rw [HS2.out]; exact P22, Q22, F22, hsz22⟩
     ·have hikz : ¬ (ii : Int) < (kk : Int) := by omega
      have hd2 : decide (ii < kk) = false := decide_eq_false hik
      have hd3 : decide ((ii : Int) < (kk : Int)) = false := decide_eq_false hikz
      have hij0 : 0 ≤ (ii : Int) - kk := by omega
      have hij1 : (ii : Int) - kk < a.length := by omega
      have hijn : ((ii : Int) - kk).toNat = ii - kk := by omega
      obtain ⟨x, hx⟩ : ∃ x, rd a ((ii : Int) - kk) = x := ⟨_, rfl⟩
      obtain ⟨g1, hg1⟩ : ∃ q, q = gt ++ [(⟨3, x, y⟩ : S93)] := ⟨_, rfl⟩
      rw [show mulF a b kk ii = ⟨3, x, y⟩ from by rw [← hx, ← HY.out]; exact if_neg hik, ← hg1] at hs2
      have HS2 := Aside0.mk hs2
      have G1 := Aside0.mk hg1
      have HX := Aside0.mk hx
      have tok1 : True := trivial
      clear hs2 hg1 hx
      obtain ⟨ad, e, hxa⟩ := Kd.at_int (Hha.out _ HF.out) ((ii : Int) - kk) hij0 hij1
      cases e
      rw [HX.out] at hxa
      have hya := Fr.cellAt HF.out Hhb2.out hlt HY.out
      try simp only [hijn] at hxa
      have hwij : IntKind.i64.wrap ((ii : Int) - kk) = (ii : Int) - kk := IntWalk.i64_in _ (by omega)
      go_wp2
      have BD := Aside0.mk (HBD.out.drew)
      have FD := Aside0.mk (HF.out.drew)
      have PD := Aside0.mk (Kd.R_drew HP.out)
      have QD := Aside0.mk (Kd.R_drew HQ.out)
      go_region_held3 (fun w' => w'.cell? (ad.add (ii - kk)) = some (.int .i64 x) ∧ w'.cell? (ae.add kk) = some (.int .i64 y)) (first | exact ⟨hxa, hya⟩ | exact ⟨bd_cell_new hxa _, bd_cell_new hya _⟩ | go_keep) (first | (go_at_call 101; have _t := tok1; refine (impl_Circuit_put.calls G base ins ov gt g1 3 x y d _ (Nat.le_trans hb FD.out.size) BD.out hi0 hi1 L0 N0.out G1.out).mono ?_; rintro e w1 ⟨rfl, hbd, hf⟩; have B1 := Aside0.mk hbd; have F1 := Aside0.mk (FD.out.trans hf); have hsz1 : N5 ≤ w1.heap.size := Nat.le_trans hsz5 hf.size; have P1 := Aside0.mk (Fr.R hf PD.out (by decide) (fun _ hk => hk)); have Q1 := Aside0.mk (Fr.R hf QD.out (by decide) (fun _ hk => hk.1)); clear tok1 hbd hf hxa hya; have hxa := Fr.cellAtI F1.out Hha.out hij0 hij1 HX.out; have hya := Fr.cellAt F1.out Hhb2.out hlt HY.out; try simp only [hijn] at hxa) | (refine Kd.R_append_step (Kd.int .i64) (w0 := w1) N5 (by rfl) (.tmp 35) (.tmp 48) 25 3 (.int .i64 0) 8 rfl Try.underlying25 info_int rfl (by decide) (by omega) _ os d [.int .i64 d] (fun k => k ≠ G) (fun _ => False) rfl (by first | (go_simp; done) | (go_simp; rfl)) ?aP (fun _ hk => hk.elim) ?aF ?aO ?aB ?aS ?aL ?_; (case aP => exact rfl); (case aF => intro k hk; omega); (case aO => exact P1.out); (case aB => exact Below.refl _ _); (case aS => exact hsz1); (case aL => omega); intro v22 w22 hv _ hg_ _; have P22 := Aside0.mk hv; have Q22 := Aside0.mk (R_old_grown Q1.out hg_ (own_ge P1.out)); have B22 := Aside0.mk (Bd.grown B1.out hg_ (Kd.R_typed P1.out) (by decide) (by decide)); have F22 := Aside0.mk (Fr.grown_new F1.out hg_ (fun k e_ => Nat.le_trans hN5l (own_ge P1.out k e_))); have hsz22 : N5 ≤ w22.heap.size := Nat.le_trans hsz1 hg_.size; clear hv hg_ hxa hya; have hxa := Fr.cellAtI F22.out Hha.out hij0 hij1 HX.out; have hya := Fr.cellAt F22.out Hhb2.out hlt HY.out; try simp only [hijn] at hxa))
      go_wp2
      go_roundg (a.length - (ii + 1))
      case measure => omega
      case rel => exact ⟨ii + 1, by omega, by omega, by go_num, by rw [HS2.out]; exact B22, by rw [HS2.out]; exact P22, Q22, F22, hsz22⟩
    ·have hlt2z : ¬ (ii : Int) < (a.length : Int) := by omega
     obtain rfl : ii = a.length := by omega
     obtain ⟨gp, hgp⟩ : ∃ q, (emitN ins (mulF a b kk) gs a.length).1 = q := ⟨_, rfl⟩
     obtain ⟨os, hos⟩ : ∃ q, (emitN ins (mulF a b kk) gs a.length).2 = q := ⟨_, rfl⟩
     have hs3 := HS.out
     rw [hgp, hos] at hlen hs3
     rw [hgp] at HBD
     rw [hos] at HP
     clear hgp hos HS
     obtain ⟨hl1, hl2⟩ := hlen
     obtain ⟨A9, c9, rfl⟩ := Kd.R_slice HP.out
     have HOS := Aside0.mk (show os.length = ss.length by have := HSS.out; omega)
     have L0 : gp.length ≤ 1000000 := by omega
     obtain ⟨gq, hgq⟩ : ∃ q, q = gp ++ [(⟨1, 0, 0⟩ : S93)] := ⟨_, rfl⟩
     have L1 : gq.length ≤ 900000 := by rw [hgq, List.length_append, List.length_singleton]; omega
     obtain ⟨d, hd⟩ : ∃ d, ins + (gp.length : Int) = d := ⟨_, rfl⟩
     rw [hd, ← hgq] at hs3
     have N0 := Aside0.mk hd.symm
     have G1 := Aside0.mk hgq
     have HS3 := Aside0.mk hs3
     have hd0 : 0 ≤ d := by omega
     have hd1 : d ≤ 2000000 := by omega
     have tok2 : True := trivial
     clear hl1 hl2 hd hgq hs3
     go_wp2_with (first | (go_at_call 101; have _t := tok2; refine (impl_Circuit_put.calls G base ins ov gp gq 1 0 0 d _ (Nat.le_trans hb HF.out.size) HBD.out hi0 hi1 L0 N0.out G1.out).mono ?_; rintro e w1 ⟨rfl, hbd, hf⟩; have B1 := Aside0.mk hbd; have F1 := Aside0.mk (HF.out.trans hf); have P1 := Aside0.mk (Fr.R hf HP.out (by decide) (fun _ hk => hk)); have Q1 := Aside0.mk (Fr.R hf HQ.out (by decide) (fun _ hk => hk.1)); clear tok2 hbd hf) | (go_at_call 103; have _t := tokA; refine (impl_Circuit_putAdd.calls G base ins ov gq A7 A9 c7 c9 ss os d w1 (Nat.le_trans hb F1.out.size) B1.out (Fr.C_own Q1.out (by decide) (fun _ hk => hk.1)) (Fr.C_own P1.out (by decide) (fun _ hk => hk)) hi0 hi1 L1 HSL HOS.out).mono ?_; rintro e w2 ⟨v2, rfl, hbd, hv, hf⟩; have B2 := Aside0.mk hbd; have V2 := Aside0.mk (Kd.R_lower hv F1.out.size); have F2 := Aside0.mk (F1.out.trans hf); clear tokA hbd hv hf))
     go_roundg (b.length - (kk + 1))
     case measure => omega
     case rel => exact ⟨kk + 1, by omega, by omega, by go_num, by rw [HS3.out]; exact B2, by rw [HS3.out]; exact V2, F2⟩
  ·have hltz : ¬ (kk : Int) < (b.length : Int) := by omega
   obtain rfl : kk = b.length := by omega
   go_wp2
   go_ret
   exact ⟨_, rfl, HBD.out, HV.out, HF.out⟩


-- HAND
/-! ### impl_Circuit_putEq: function 105 -/
-- IMPORT Derived.StillTailTactics
set_option maxHeartbeats 16000000 in
set_option maxRecDepth 100000 in
/-- A comparison for equality that is put: its wire, and the circuit behind it. -/
theorem impl_Circuit_putEq.calls (G base : Nat) (ins : Int) (ov : Value) (g : List S93) (A1 A2 : Option Addr) (c1 c2 : Nat) (a b : List Int) (w : World) (hb : base ≤ w.heap.size) (HBD : Bd 27 G base ins ov w g) (ha : (∀ W', Fr 93 G base w W' → Kd.C (Kd.int .i64) W' A1 a.length a)) (hb2 : (∀ W', Fr 93 G base w W' → Kd.C (Kd.int .i64) W' A2 b.length b)) (hi0 : 0 ≤ ins) (hi1 : ins ≤ 1000000) (hl : g.length ≤ 900000) (hal : a.length ≤ 10000) (hbl : b.length = a.length) :
  Calls Try.prog 105 #[.pointer (some ⟨G, 0, none⟩), .slice A1 a.length c1, .slice A2 b.length c2] w fun e w' => e = .returned (.int .i64 (eqN ins a b g a.length).2) ∧ Bd 27 G base ins ov w' (eqN ins a b g a.length).1 ∧ Fr 93 G base w w' := by
 have hGlt : G < w.heap.size := by obtain ⟨gv, hG, _⟩ := HBD; exact blk_lt hG
 have HBD0 := Aside0.mk HBD
 have Hha := Aside0.mk ha
 have Hhb2 := Aside0.mk hb2
 have HBL := Aside0.mk hbl
 clear HBD ha hb2 hbl
 have hu1 := Try.underlying25
 obtain ⟨g1, hg1⟩ : ∃ q, q = g ++ [(⟨1, 1, 0⟩ : S93)] := ⟨_, rfl⟩
 obtain ⟨d0, hd0⟩ : ∃ d, d = ins + (g.length : Int) := ⟨_, rfl⟩
 have hz : eqN ins a b g 0 = (g1, d0) := by rw [hg1, hd0]; rfl
 have G1 := Aside0.mk hg1
 have N0 := Aside0.mk hd0
 have HZ := Aside0.mk hz
 have L0 : g.length ≤ 1000000 := by omega
 have HF0 := Aside0.mk (Fr.refl 93 G base w)
 have tok1 : True := trivial
 clear hg1 hd0 hz
 go_enter Try.func105, Try.ntmps105
 go_wp2_with (go_at_call 101; have _t := tok1; refine (impl_Circuit_put.calls G base ins ov g g1 1 1 0 d0 _ (Nat.le_trans hb HF0.out.size) HBD0.out hi0 hi1 L0 N0.out G1.out).mono ?_; rintro e w1 ⟨rfl, hbd, hf⟩; have B1 := Aside0.mk hbd; have F1 := Aside0.mk (HF0.out.trans hf); clear tok1 hbd hf)
 go_loopg [7, 15] a.length (fun gg so si wr => ∃ kk : Nat, kk ≤ a.length ∧ a.length - kk ≤ gg ∧ so = .int .i64 (eqN ins a b g kk).2 ∧ si = .int .i64 kk ∧ Aside0 (Bd 27 G base ins ov wr (eqN ins a b g kk).1) ∧ Aside0 (Fr 93 G base w wr))
 case atStart => exact ⟨0, Nat.zero_le _, by omega, by rw [HZ.out], rfl, by rw [HZ.out]; exact B1, F1⟩
 case round =>
  clear HBD0 HF0 B1 F1 G1 N0 HZ
  obtain ⟨kk, hkk, hg, rfl, rfl, HBD, HF⟩ := hrel
  have hlen := eqN_len ins a b g kk
  by_cases hlt : kk < a.length
  ·have hltz : (kk : Int) < (a.length : Int) := by omega
   have hs : eqN ins a b g (kk + 1) = ((eqN ins a b g kk).1 ++ [⟨5, rd a kk, rd b kk⟩] ++ [⟨2, (ins + ((eqN ins a b g kk).1.length : Int)), 0⟩] ++ [⟨3, (ins + ((eqN ins a b g kk).1.length : Int)) + 1, (eqN ins a b g kk).2⟩], (ins + ((eqN ins a b g kk).1.length : Int)) + 2) := rfl
   obtain ⟨gs, hgs⟩ : ∃ q, (eqN ins a b g kk).1 = q := ⟨_, rfl⟩
   obtain ⟨cs, hcs⟩ : ∃ q, (eqN ins a b g kk).2 = q := ⟨_, rfl⟩
   rw [hgs] at hlen
   rw [hgs, hcs] at hs
   rw [hgs] at HBD
   rw [hcs]
   clear hgs hcs
   have hgl : gs.length ≤ 970000 := by omega
   obtain ⟨d, hd⟩ : ∃ d, ins + (gs.length : Int) = d := ⟨_, rfl⟩
   rw [hd] at hs
   have hd0 : 0 ≤ d := by omega
   have hd1 : d ≤ 2000000 := by omega
   clear hlen
   obtain ⟨ad, e, hxa⟩ := Kd.at_int (Hha.out _ HF.out) (kk : Int) (by omega) hltz
   cases e
   rw [Int.toNat_natCast] at hxa
   have hltb : kk < b.length := by have := HBL.out; omega
   obtain ⟨ae, e, hya⟩ := Kd.at_int (Hhb2.out _ HF.out) (kk : Int) (by omega) (by omega)
   cases e
   rw [Int.toNat_natCast] at hya
   obtain ⟨x, hx⟩ : ∃ x, rd a kk = x := ⟨_, rfl⟩
   rw [hx] at hs hxa
   obtain ⟨y, hy⟩ : ∃ y, rd b kk = y := ⟨_, rfl⟩
   rw [hy] at hs hya
   have HX := Aside0.mk hx
   have HY := Aside0.mk hy
   clear hx hy L0
   obtain ⟨g1, hg1⟩ : ∃ q, q = gs ++ [(⟨5, x, y⟩ : S93)] := ⟨_, rfl⟩
   obtain ⟨g2, hg2⟩ : ∃ q, q = g1 ++ [(⟨2, d, 0⟩ : S93)] := ⟨_, rfl⟩
   obtain ⟨g3, hg3⟩ : ∃ q, q = g2 ++ [(⟨3, (d + 1), cs⟩ : S93)] := ⟨_, rfl⟩
   rw [← hg1, ← hg2, ← hg3] at hs
   have n1 : (g1.length : Int) = gs.length + 1 := by rw [hg1]; simp; try omega
   have n2 : (g2.length : Int) = gs.length + 2 := by rw [hg2]; simp; try omega
   have N0 := Aside0.mk (show d = ins + (gs.length : Int) by omega)
   have L0 : gs.length ≤ 1000000 := by omega
   have N1 := Aside0.mk (show (d + 1) = ins + (g1.length : Int) by omega)
   have L1 : g1.length ≤ 1000000 := by omega
   have N2 := Aside0.mk (show (d + 2) = ins + (g2.length : Int) by omega)
   have L2 : g2.length ≤ 1000000 := by omega
   have G1 := Aside0.mk hg1
   have tok1 : True := trivial
   have G2 := Aside0.mk hg2
   have tok2 : True := trivial
   have G3 := Aside0.mk hg3
   have tok3 : True := trivial
   have HS := Aside0.mk hs
   clear hs hd hg1 hg2 hg3 n1 n2
   clear hgl
   go_wp2
   go_still_tail 9, (by kernel_rfl)
   change wpList _ _ _ _ _ wr.drew
   have BD1 := Aside0.mk (HBD.out.drew)
   have FD1 := Aside0.mk (HF.out.drew)
   clear hxa hya
   generalize wr.drew = W1 at BD1 FD1 ⊢
   have hxa := Fr.cellAt FD1.out Hha.out hlt HX.out
   have hya := Fr.cellAt FD1.out Hhb2.out hltb HY.out
   go_wp2_with (first
     | (go_at_call 101; have _t := tok1; refine (impl_Circuit_put.calls G base ins ov gs g1 5 x y d _ (Nat.le_trans hb FD1.out.size) BD1.out hi0 hi1 L0 N0.out G1.out).mono ?_; rintro e w1 ⟨rfl, hbd, hf⟩; have B1 := Aside0.mk hbd; have F1 := Aside0.mk (FD1.out.trans hf); clear tok1 hbd hf hxa hya; have hxa := Fr.cellAt F1.out Hha.out hlt HX.out; have hya := Fr.cellAt F1.out Hhb2.out hltb HY.out)
     | (go_at_call 101; have _t := tok2; refine (impl_Circuit_put.calls G base ins ov g1 g2 2 d 0 (d + 1) _ (Nat.le_trans hb F1.out.size) B1.out hi0 hi1 L1 N1.out G2.out).mono ?_; rintro e w2 ⟨rfl, hbd, hf⟩; have B2 := Aside0.mk hbd; have F2 := Aside0.mk (F1.out.trans hf); clear tok2 hbd hf hxa hya; have hxa := Fr.cellAt F2.out Hha.out hlt HX.out; have hya := Fr.cellAt F2.out Hhb2.out hltb HY.out)
     | (go_at_call 101; have _t := tok3; refine (impl_Circuit_put.calls G base ins ov g2 g3 3 (d + 1) cs (d + 2) _ (Nat.le_trans hb F2.out.size) B2.out hi0 hi1 L2 N2.out G3.out).mono ?_; rintro e w3 ⟨rfl, hbd, hf⟩; have B3 := Aside0.mk hbd; have F3 := Aside0.mk (F2.out.trans hf); clear tok3 hbd hf hxa hya; have hxa := Fr.cellAt F3.out Hha.out hlt HX.out; have hya := Fr.cellAt F3.out Hhb2.out hltb HY.out))
   go_roundg (a.length - (kk + 1))
   case measure => omega
   case rel => exact ⟨kk + 1, by omega, by omega, by rw [HS.out], by go_num, by rw [HS.out]; exact B3, F3⟩
  ·have hltz : ¬ (kk : Int) < (a.length : Int) := by omega
   obtain rfl : kk = a.length := by omega
   go_wp2
   go_ret
   exact ⟨rfl, HBD.out, HF.out⟩


-- HAND
/-! ### impl_Circuit_putLess: function 106 -/
-- IMPORT Derived.StillTailTactics
set_option maxHeartbeats 16000000 in
set_option maxRecDepth 100000 in
/-- A comparison that is put: its wire, and the circuit behind it. -/
theorem impl_Circuit_putLess.calls (G base : Nat) (ins : Int) (ov : Value) (g : List S93) (A1 A2 : Option Addr) (c1 c2 : Nat) (a b : List Int) (w : World) (hb : base ≤ w.heap.size) (HBD : Bd 27 G base ins ov w g) (ha : (∀ W', Fr 93 G base w W' → Kd.C (Kd.int .i64) W' A1 a.length a)) (hb2 : (∀ W', Fr 93 G base w W' → Kd.C (Kd.int .i64) W' A2 b.length b)) (hi0 : 0 ≤ ins) (hi1 : ins ≤ 1000000) (hl : g.length ≤ 900000) (hal : a.length ≤ 10000) (hbl : b.length = a.length) :
  Calls Try.prog 106 #[.pointer (some ⟨G, 0, none⟩), .slice A1 a.length c1, .slice A2 b.length c2] w fun e w' => e = .returned (.int .i64 (lessN ins a b g a.length).2) ∧ Bd 27 G base ins ov w' (lessN ins a b g a.length).1 ∧ Fr 93 G base w w' := by
 have hGlt : G < w.heap.size := by obtain ⟨gv, hG, _⟩ := HBD; exact blk_lt hG
 have HBD0 := Aside0.mk HBD
 have Hha := Aside0.mk ha
 have Hhb2 := Aside0.mk hb2
 have HBL := Aside0.mk hbl
 clear HBD ha hb2 hbl
 have hu1 := Try.underlying25
 obtain ⟨g1, hg1⟩ : ∃ q, q = g ++ [(⟨1, 0, 0⟩ : S93)] := ⟨_, rfl⟩
 obtain ⟨d0, hd0⟩ : ∃ d, d = ins + (g.length : Int) := ⟨_, rfl⟩
 have hz : lessN ins a b g 0 = (g1, d0) := by rw [hg1, hd0]; rfl
 have G1 := Aside0.mk hg1
 have N0 := Aside0.mk hd0
 have HZ := Aside0.mk hz
 have L0 : g.length ≤ 1000000 := by omega
 have HF0 := Aside0.mk (Fr.refl 93 G base w)
 have tok1 : True := trivial
 clear hg1 hd0 hz
 go_enter Try.func106, Try.ntmps106
 go_wp2_with (go_at_call 101; have _t := tok1; refine (impl_Circuit_put.calls G base ins ov g g1 1 0 0 d0 _ (Nat.le_trans hb HF0.out.size) HBD0.out hi0 hi1 L0 N0.out G1.out).mono ?_; rintro e w1 ⟨rfl, hbd, hf⟩; have B1 := Aside0.mk hbd; have F1 := Aside0.mk (HF0.out.trans hf); clear tok1 hbd hf)
 go_loopg [7, 18] a.length (fun gg so si wr => ∃ kk : Nat, kk ≤ a.length ∧ a.length - kk ≤ gg ∧ so = .int .i64 (lessN ins a b g kk).2 ∧ si = .int .i64 kk ∧ Aside0 (Bd 27 G base ins ov wr (lessN ins a b g kk).1) ∧ Aside0 (Fr 93 G base w wr))
 case atStart => exact ⟨0, Nat.zero_le _, by omega, by rw [HZ.out], rfl, by rw [HZ.out]; exact B1, F1⟩
 case round =>
  clear HBD0 HF0 B1 F1 G1 N0 HZ
  obtain ⟨kk, hkk, hg, rfl, rfl, HBD, HF⟩ := hrel
  have hlen := lessN_len ins a b g kk
  by_cases hlt : kk < a.length
  ·have hltz : (kk : Int) < (a.length : Int) := by omega
   have hs : lessN ins a b g (kk + 1) = ((lessN ins a b g kk).1 ++ [⟨5, rd a kk, rd b kk⟩] ++ [⟨2, (ins + ((lessN ins a b g kk).1.length : Int)), 0⟩] ++ [⟨3, (ins + ((lessN ins a b g kk).1.length : Int)) + 1, (lessN ins a b g kk).2⟩] ++ [⟨2, rd a kk, 0⟩] ++ [⟨3, (ins + ((lessN ins a b g kk).1.length : Int)) + 3, rd b kk⟩] ++ [⟨4, (ins + ((lessN ins a b g kk).1.length : Int)) + 2, (ins + ((lessN ins a b g kk).1.length : Int)) + 4⟩], (ins + ((lessN ins a b g kk).1.length : Int)) + 5) := rfl
   obtain ⟨gs, hgs⟩ : ∃ q, (lessN ins a b g kk).1 = q := ⟨_, rfl⟩
   obtain ⟨cs, hcs⟩ : ∃ q, (lessN ins a b g kk).2 = q := ⟨_, rfl⟩
   rw [hgs] at hlen
   rw [hgs, hcs] at hs
   rw [hgs] at HBD
   rw [hcs]
   clear hgs hcs
   have hgl : gs.length ≤ 970000 := by omega
   obtain ⟨d, hd⟩ : ∃ d, ins + (gs.length : Int) = d := ⟨_, rfl⟩
   rw [hd] at hs
   have hd0 : 0 ≤ d := by omega
   have hd1 : d ≤ 2000000 := by omega
   clear hlen
   obtain ⟨ad, e, hxa⟩ := Kd.at_int (Hha.out _ HF.out) (kk : Int) (by omega) hltz
   cases e
   rw [Int.toNat_natCast] at hxa
   have hltb : kk < b.length := by have := HBL.out; omega
   obtain ⟨ae, e, hya⟩ := Kd.at_int (Hhb2.out _ HF.out) (kk : Int) (by omega) (by omega)
   cases e
   rw [Int.toNat_natCast] at hya
   obtain ⟨x, hx⟩ : ∃ x, rd a kk = x := ⟨_, rfl⟩
   rw [hx] at hs hxa
   obtain ⟨y, hy⟩ : ∃ y, rd b kk = y := ⟨_, rfl⟩
   rw [hy] at hs hya
   have HX := Aside0.mk hx
   have HY := Aside0.mk hy
   clear hx hy L0
   obtain ⟨g1, hg1⟩ : ∃ q, q = gs ++ [(⟨5, x, y⟩ : S93)] := ⟨_, rfl⟩
   obtain ⟨g2, hg2⟩ : ∃ q, q = g1 ++ [(⟨2, d, 0⟩ : S93)] := ⟨_, rfl⟩
   obtain ⟨g3, hg3⟩ : ∃ q, q = g2 ++ [(⟨3, (d + 1), cs⟩ : S93)] := ⟨_, rfl⟩
   obtain ⟨g4, hg4⟩ : ∃ q, q = g3 ++ [(⟨2, x, 0⟩ : S93)] := ⟨_, rfl⟩
   obtain ⟨g5, hg5⟩ : ∃ q, q = g4 ++ [(⟨3, (d + 3), y⟩ : S93)] := ⟨_, rfl⟩
   obtain ⟨g6, hg6⟩ : ∃ q, q = g5 ++ [(⟨4, (d + 2), (d + 4)⟩ : S93)] := ⟨_, rfl⟩
   rw [← hg1, ← hg2, ← hg3, ← hg4, ← hg5, ← hg6] at hs
   have n1 : (g1.length : Int) = gs.length + 1 := by rw [hg1]; simp; try omega
   have n2 : (g2.length : Int) = gs.length + 2 := by rw [hg2]; simp; try omega
   have n3 : (g3.length : Int) = gs.length + 3 := by rw [hg3]; simp; try omega
   have n4 : (g4.length : Int) = gs.length + 4 := by rw [hg4]; simp; try omega
   have n5 : (g5.length : Int) = gs.length + 5 := by rw [hg5]; simp; try omega
   have N0 := Aside0.mk (show d = ins + (gs.length : Int) by omega)
   have L0 : gs.length ≤ 1000000 := by omega
   have N1 := Aside0.mk (show (d + 1) = ins + (g1.length : Int) by omega)
   have L1 : g1.length ≤ 1000000 := by omega
   have N2 := Aside0.mk (show (d + 2) = ins + (g2.length : Int) by omega)
   have L2 : g2.length ≤ 1000000 := by omega
   have N3 := Aside0.mk (show (d + 3) = ins + (g3.length : Int) by omega)
   have L3 : g3.length ≤ 1000000 := by omega
   have N4 := Aside0.mk (show (d + 4) = ins + (g4.length : Int) by omega)
   have L4 : g4.length ≤ 1000000 := by omega
   have N5 := Aside0.mk (show (d + 5) = ins + (g5.length : Int) by omega)
   have L5 : g5.length ≤ 1000000 := by omega
   have G1 := Aside0.mk hg1
   have tok1 : True := trivial
   have G2 := Aside0.mk hg2
   have tok2 : True := trivial
   have G3 := Aside0.mk hg3
   have tok3 : True := trivial
   have G4 := Aside0.mk hg4
   have tok4 : True := trivial
   have G5 := Aside0.mk hg5
   have tok5 : True := trivial
   have G6 := Aside0.mk hg6
   have tok6 : True := trivial
   have HS := Aside0.mk hs
   clear hs hd hg1 hg2 hg3 hg4 hg5 hg6 n1 n2 n3 n4 n5
   clear hgl
   go_wp2
   go_still_tail 9, (by kernel_rfl)
   change wpList _ _ _ _ _ wr.drew
   have BD1 := Aside0.mk (HBD.out.drew)
   have FD1 := Aside0.mk (HF.out.drew)
   clear hxa hya
   generalize wr.drew = W1 at BD1 FD1 ⊢
   have hxa := Fr.cellAt FD1.out Hha.out hlt HX.out
   have hya := Fr.cellAt FD1.out Hhb2.out hltb HY.out
   go_wp2_with (first
     | (go_at_call 101; have _t := tok1; refine (impl_Circuit_put.calls G base ins ov gs g1 5 x y d _ (Nat.le_trans hb FD1.out.size) BD1.out hi0 hi1 L0 N0.out G1.out).mono ?_; rintro e w1 ⟨rfl, hbd, hf⟩; have B1 := Aside0.mk hbd; have F1 := Aside0.mk (FD1.out.trans hf); clear tok1 hbd hf hxa hya; have hxa := Fr.cellAt F1.out Hha.out hlt HX.out; have hya := Fr.cellAt F1.out Hhb2.out hltb HY.out)
     | (go_at_call 101; have _t := tok2; refine (impl_Circuit_put.calls G base ins ov g1 g2 2 d 0 (d + 1) _ (Nat.le_trans hb F1.out.size) B1.out hi0 hi1 L1 N1.out G2.out).mono ?_; rintro e w2 ⟨rfl, hbd, hf⟩; have B2 := Aside0.mk hbd; have F2 := Aside0.mk (F1.out.trans hf); clear tok2 hbd hf hxa hya; have hxa := Fr.cellAt F2.out Hha.out hlt HX.out; have hya := Fr.cellAt F2.out Hhb2.out hltb HY.out)
     | (go_at_call 101; have _t := tok3; refine (impl_Circuit_put.calls G base ins ov g2 g3 3 (d + 1) cs (d + 2) _ (Nat.le_trans hb F2.out.size) B2.out hi0 hi1 L2 N2.out G3.out).mono ?_; rintro e w3 ⟨rfl, hbd, hf⟩; have B3 := Aside0.mk hbd; have F3 := Aside0.mk (F2.out.trans hf); clear tok3 hbd hf hxa hya; have hxa := Fr.cellAt F3.out Hha.out hlt HX.out; have hya := Fr.cellAt F3.out Hhb2.out hltb HY.out)
     | (go_at_call 101; have _t := tok4; refine (impl_Circuit_put.calls G base ins ov g3 g4 2 x 0 (d + 3) _ (Nat.le_trans hb F3.out.size) B3.out hi0 hi1 L3 N3.out G4.out).mono ?_; rintro e w4 ⟨rfl, hbd, hf⟩; have B4 := Aside0.mk hbd; have F4 := Aside0.mk (F3.out.trans hf); clear tok4 hbd hf hxa hya; have hxa := Fr.cellAt F4.out Hha.out hlt HX.out; have hya := Fr.cellAt F4.out Hhb2.out hltb HY.out)
     | (go_at_call 101; have _t := tok5; refine (impl_Circuit_put.calls G base ins ov g4 g5 3 (d + 3) y (d + 4) _ (Nat.le_trans hb F4.out.size) B4.out hi0 hi1 L4 N4.out G5.out).mono ?_; rintro e w5 ⟨rfl, hbd, hf⟩; have B5 := Aside0.mk hbd; have F5 := Aside0.mk (F4.out.trans hf); clear tok5 hbd hf hxa hya; have hxa := Fr.cellAt F5.out Hha.out hlt HX.out; have hya := Fr.cellAt F5.out Hhb2.out hltb HY.out)
     | (go_at_call 101; have _t := tok6; refine (impl_Circuit_put.calls G base ins ov g5 g6 4 (d + 2) (d + 4) (d + 5) _ (Nat.le_trans hb F5.out.size) B5.out hi0 hi1 L5 N5.out G6.out).mono ?_; rintro e w6 ⟨rfl, hbd, hf⟩; have B6 := Aside0.mk hbd; have F6 := Aside0.mk (F5.out.trans hf); clear tok6 hbd hf hxa hya; have hxa := Fr.cellAt F6.out Hha.out hlt HX.out; have hya := Fr.cellAt F6.out Hhb2.out hltb HY.out))
   go_roundg (a.length - (kk + 1))
   case measure => omega
   case rel => exact ⟨kk + 1, by omega, by omega, by rw [HS.out], by go_num, by rw [HS.out]; exact B6, F6⟩
  ·have hltz : ¬ (kk : Int) < (a.length : Int) := by omega
   obtain rfl : kk = a.length := by omega
   go_wp2
   go_ret
   exact ⟨rfl, HBD.out, HF.out⟩


-- HAND
/-! ### impl_Circuit_putTwo: function 77 -/
-- IMPORT Derived.StillTailTactics
set_option maxHeartbeats 16000000 in
set_option maxRecDepth 100000 in
/-- The gates of the operator 8. -/
theorem impl_Circuit_putTwo_8.calls (G base : Nat) (ins : Int) (ov : Value) (g : List S93) (A1 A2 : Option Addr) (c1 c2 : Nat) (a b : List Int) (w : World) (hb : base ≤ w.heap.size) (HBD : Bd 27 G base ins ov w g) (ha : (∀ W', Fr 93 G base w W' → Kd.C (Kd.int .i64) W' A1 a.length a)) (hb2 : (∀ W', Fr 93 G base w W' → Kd.C (Kd.int .i64) W' A2 b.length b)) (hi0 : 0 ≤ ins) (hi1 : ins ≤ 1000000) (hl : g.length ≤ 900000) (hlm : g.length ≤ 800000) (hal : a.length ≤ 50) (hal1 : 1 ≤ a.length) (hc1 : a.length ≤ c1) (hc2 : b.length ≤ c2) (hbl : b.length = a.length) :
  Calls Try.prog 77 #[.pointer (some ⟨G, 0, none⟩), .int .i64 8, .slice A1 a.length c1, .slice A2 b.length c2] w fun e w' => ∃ v : Value, e = .returned v ∧ Bd 27 G base ins ov w' (twoN ins 8 a b g).1 ∧ Kd.R (Kd.int .i64) 3 w' w.heap.size (fun k => k ≠ G) v (twoN ins 8 a b g).2 ∧ Fr 93 G base w w' := by
 have hGlt : G < w.heap.size := by obtain ⟨gv, hG, _⟩ := HBD; exact blk_lt hG
 have HBD0 := Aside0.mk HBD
 have Hha := Aside0.mk ha
 have Hhb2 := Aside0.mk hb2
 have HBL := Aside0.mk hbl
 clear HBD ha hb2 hbl
 have hu1 := Try.underlying25
 have HT := Aside0.mk (show twoN ins 8 a b g = emitN ins (fun i => ⟨3, rd a i, rd b i⟩) g a.length from by unfold twoN; simp)
 have tok1 : True := trivial
 go_enter Try.func77, Try.ntmps77
 go_wp2_with (go_at_call 102; have _t := tok1; refine (impl_Circuit_putEach.calls G base ins ov g 3 A1 A2 c1 c2 a b w hb HBD0.out Hha.out Hhb2.out hi0 hi1 hl (by omega) HBL.out).mono ?_; rintro e w1 ⟨v1, rfl, hbd, hv, hf⟩; have B1 := Aside0.mk hbd; have V1 := Aside0.mk hv; have F1 := Aside0.mk hf; clear tok1 hbd hv hf)
 go_ret
 rw [HT.out]
 exact ⟨_, rfl, B1.out, V1.out, F1.out⟩

set_option maxHeartbeats 16000000 in
set_option maxRecDepth 100000 in
/-- The gates of the operator 17. -/
theorem impl_Circuit_putTwo_17.calls (G base : Nat) (ins : Int) (ov : Value) (g : List S93) (A1 A2 : Option Addr) (c1 c2 : Nat) (a b : List Int) (w : World) (hb : base ≤ w.heap.size) (HBD : Bd 27 G base ins ov w g) (ha : (∀ W', Fr 93 G base w W' → Kd.C (Kd.int .i64) W' A1 a.length a)) (hb2 : (∀ W', Fr 93 G base w W' → Kd.C (Kd.int .i64) W' A2 b.length b)) (hi0 : 0 ≤ ins) (hi1 : ins ≤ 1000000) (hl : g.length ≤ 900000) (hlm : g.length ≤ 800000) (hal : a.length ≤ 50) (hal1 : 1 ≤ a.length) (hc1 : a.length ≤ c1) (hc2 : b.length ≤ c2) (hbl : b.length = a.length) :
  Calls Try.prog 77 #[.pointer (some ⟨G, 0, none⟩), .int .i64 17, .slice A1 a.length c1, .slice A2 b.length c2] w fun e w' => ∃ v : Value, e = .returned v ∧ Bd 27 G base ins ov w' (twoN ins 17 a b g).1 ∧ Kd.R (Kd.int .i64) 3 w' w.heap.size (fun k => k ≠ G) v (twoN ins 17 a b g).2 ∧ Fr 93 G base w w' := by
 have hGlt : G < w.heap.size := by obtain ⟨gv, hG, _⟩ := HBD; exact blk_lt hG
 have HBD0 := Aside0.mk HBD
 have Hha := Aside0.mk ha
 have Hhb2 := Aside0.mk hb2
 have HBL := Aside0.mk hbl
 clear HBD ha hb2 hbl
 have hu1 := Try.underlying25
 have HT := Aside0.mk (show twoN ins 17 a b g = emitN ins (fun i => ⟨3, rd a i, rd b i⟩) g a.length from by unfold twoN; simp)
 have tok1 : True := trivial
 go_enter Try.func77, Try.ntmps77
 go_wp2_with (go_at_call 102; have _t := tok1; refine (impl_Circuit_putEach.calls G base ins ov g 3 A1 A2 c1 c2 a b w hb HBD0.out Hha.out Hhb2.out hi0 hi1 hl (by omega) HBL.out).mono ?_; rintro e w1 ⟨v1, rfl, hbd, hv, hf⟩; have B1 := Aside0.mk hbd; have V1 := Aside0.mk hv; have F1 := Aside0.mk hf; clear tok1 hbd hv hf)
 go_ret
 rw [HT.out]
 exact ⟨_, rfl, B1.out, V1.out, F1.out⟩

set_option maxHeartbeats 16000000 in
set_option maxRecDepth 100000 in
/-- The gates of the operator 9. -/
theorem impl_Circuit_putTwo_9.calls (G base : Nat) (ins : Int) (ov : Value) (g : List S93) (A1 A2 : Option Addr) (c1 c2 : Nat) (a b : List Int) (w : World) (hb : base ≤ w.heap.size) (HBD : Bd 27 G base ins ov w g) (ha : (∀ W', Fr 93 G base w W' → Kd.C (Kd.int .i64) W' A1 a.length a)) (hb2 : (∀ W', Fr 93 G base w W' → Kd.C (Kd.int .i64) W' A2 b.length b)) (hi0 : 0 ≤ ins) (hi1 : ins ≤ 1000000) (hl : g.length ≤ 900000) (hlm : g.length ≤ 800000) (hal : a.length ≤ 50) (hal1 : 1 ≤ a.length) (hc1 : a.length ≤ c1) (hc2 : b.length ≤ c2) (hbl : b.length = a.length) :
  Calls Try.prog 77 #[.pointer (some ⟨G, 0, none⟩), .int .i64 9, .slice A1 a.length c1, .slice A2 b.length c2] w fun e w' => ∃ v : Value, e = .returned v ∧ Bd 27 G base ins ov w' (twoN ins 9 a b g).1 ∧ Kd.R (Kd.int .i64) 3 w' w.heap.size (fun k => k ≠ G) v (twoN ins 9 a b g).2 ∧ Fr 93 G base w w' := by
 have hGlt : G < w.heap.size := by obtain ⟨gv, hG, _⟩ := HBD; exact blk_lt hG
 have HBD0 := Aside0.mk HBD
 have Hha := Aside0.mk ha
 have Hhb2 := Aside0.mk hb2
 have HBL := Aside0.mk hbl
 clear HBD ha hb2 hbl
 have hu1 := Try.underlying25
 have HT := Aside0.mk (show twoN ins 9 a b g = emitN ins (fun i => ⟨4, rd a i, rd b i⟩) g a.length from by unfold twoN; simp)
 have tok1 : True := trivial
 go_enter Try.func77, Try.ntmps77
 go_wp2_with (go_at_call 102; have _t := tok1; refine (impl_Circuit_putEach.calls G base ins ov g 4 A1 A2 c1 c2 a b w hb HBD0.out Hha.out Hhb2.out hi0 hi1 hl (by omega) HBL.out).mono ?_; rintro e w1 ⟨v1, rfl, hbd, hv, hf⟩; have B1 := Aside0.mk hbd; have V1 := Aside0.mk hv; have F1 := Aside0.mk hf; clear tok1 hbd hv hf)
 go_ret
 rw [HT.out]
 exact ⟨_, rfl, B1.out, V1.out, F1.out⟩

set_option maxHeartbeats 16000000 in
set_option maxRecDepth 100000 in
/-- The gates of the operator 18. -/
theorem impl_Circuit_putTwo_18.calls (G base : Nat) (ins : Int) (ov : Value) (g : List S93) (A1 A2 : Option Addr) (c1 c2 : Nat) (a b : List Int) (w : World) (hb : base ≤ w.heap.size) (HBD : Bd 27 G base ins ov w g) (ha : (∀ W', Fr 93 G base w W' → Kd.C (Kd.int .i64) W' A1 a.length a)) (hb2 : (∀ W', Fr 93 G base w W' → Kd.C (Kd.int .i64) W' A2 b.length b)) (hi0 : 0 ≤ ins) (hi1 : ins ≤ 1000000) (hl : g.length ≤ 900000) (hlm : g.length ≤ 800000) (hal : a.length ≤ 50) (hal1 : 1 ≤ a.length) (hc1 : a.length ≤ c1) (hc2 : b.length ≤ c2) (hbl : b.length = a.length) :
  Calls Try.prog 77 #[.pointer (some ⟨G, 0, none⟩), .int .i64 18, .slice A1 a.length c1, .slice A2 b.length c2] w fun e w' => ∃ v : Value, e = .returned v ∧ Bd 27 G base ins ov w' (twoN ins 18 a b g).1 ∧ Kd.R (Kd.int .i64) 3 w' w.heap.size (fun k => k ≠ G) v (twoN ins 18 a b g).2 ∧ Fr 93 G base w w' := by
 have hGlt : G < w.heap.size := by obtain ⟨gv, hG, _⟩ := HBD; exact blk_lt hG
 have HBD0 := Aside0.mk HBD
 have Hha := Aside0.mk ha
 have Hhb2 := Aside0.mk hb2
 have HBL := Aside0.mk hbl
 clear HBD ha hb2 hbl
 have hu1 := Try.underlying25
 have HT := Aside0.mk (show twoN ins 18 a b g = emitN ins (fun i => ⟨4, rd a i, rd b i⟩) g a.length from by unfold twoN; simp)
 have tok1 : True := trivial
 go_enter Try.func77, Try.ntmps77
 go_wp2_with (go_at_call 102; have _t := tok1; refine (impl_Circuit_putEach.calls G base ins ov g 4 A1 A2 c1 c2 a b w hb HBD0.out Hha.out Hhb2.out hi0 hi1 hl (by omega) HBL.out).mono ?_; rintro e w1 ⟨v1, rfl, hbd, hv, hf⟩; have B1 := Aside0.mk hbd; have V1 := Aside0.mk hv; have F1 := Aside0.mk hf; clear tok1 hbd hv hf)
 go_ret
 rw [HT.out]
 exact ⟨_, rfl, B1.out, V1.out, F1.out⟩

set_option maxHeartbeats 16000000 in
set_option maxRecDepth 100000 in
/-- The gates of the operator 10. -/
theorem impl_Circuit_putTwo_10.calls (G base : Nat) (ins : Int) (ov : Value) (g : List S93) (A1 A2 : Option Addr) (c1 c2 : Nat) (a b : List Int) (w : World) (hb : base ≤ w.heap.size) (HBD : Bd 27 G base ins ov w g) (ha : (∀ W', Fr 93 G base w W' → Kd.C (Kd.int .i64) W' A1 a.length a)) (hb2 : (∀ W', Fr 93 G base w W' → Kd.C (Kd.int .i64) W' A2 b.length b)) (hi0 : 0 ≤ ins) (hi1 : ins ≤ 1000000) (hl : g.length ≤ 900000) (hlm : g.length ≤ 800000) (hal : a.length ≤ 50) (hal1 : 1 ≤ a.length) (hc1 : a.length ≤ c1) (hc2 : b.length ≤ c2) (hbl : b.length = a.length) :
  Calls Try.prog 77 #[.pointer (some ⟨G, 0, none⟩), .int .i64 10, .slice A1 a.length c1, .slice A2 b.length c2] w fun e w' => ∃ v : Value, e = .returned v ∧ Bd 27 G base ins ov w' (twoN ins 10 a b g).1 ∧ Kd.R (Kd.int .i64) 3 w' w.heap.size (fun k => k ≠ G) v (twoN ins 10 a b g).2 ∧ Fr 93 G base w w' := by
 have hGlt : G < w.heap.size := by obtain ⟨gv, hG, _⟩ := HBD; exact blk_lt hG
 have HBD0 := Aside0.mk HBD
 have Hha := Aside0.mk ha
 have Hhb2 := Aside0.mk hb2
 have HBL := Aside0.mk hbl
 clear HBD ha hb2 hbl
 have hu1 := Try.underlying25
 have HT := Aside0.mk (show twoN ins 10 a b g = emitN ins (fun i => ⟨5, rd a i, rd b i⟩) g a.length from by unfold twoN; simp)
 have tok1 : True := trivial
 go_enter Try.func77, Try.ntmps77
 go_wp2_with (go_at_call 102; have _t := tok1; refine (impl_Circuit_putEach.calls G base ins ov g 5 A1 A2 c1 c2 a b w hb HBD0.out Hha.out Hhb2.out hi0 hi1 hl (by omega) HBL.out).mono ?_; rintro e w1 ⟨v1, rfl, hbd, hv, hf⟩; have B1 := Aside0.mk hbd; have V1 := Aside0.mk hv; have F1 := Aside0.mk hf; clear tok1 hbd hv hf)
 go_ret
 rw [HT.out]
 exact ⟨_, rfl, B1.out, V1.out, F1.out⟩

set_option maxHeartbeats 16000000 in
set_option maxRecDepth 100000 in
/-- The gates of the operator 3. -/
theorem impl_Circuit_putTwo_3.calls (G base : Nat) (ins : Int) (ov : Value) (g : List S93) (A1 A2 : Option Addr) (c1 c2 : Nat) (a b : List Int) (w : World) (hb : base ≤ w.heap.size) (HBD : Bd 27 G base ins ov w g) (ha : (∀ W', Fr 93 G base w W' → Kd.C (Kd.int .i64) W' A1 a.length a)) (hb2 : (∀ W', Fr 93 G base w W' → Kd.C (Kd.int .i64) W' A2 b.length b)) (hi0 : 0 ≤ ins) (hi1 : ins ≤ 1000000) (hl : g.length ≤ 900000) (hlm : g.length ≤ 800000) (hal : a.length ≤ 50) (hal1 : 1 ≤ a.length) (hc1 : a.length ≤ c1) (hc2 : b.length ≤ c2) (hbl : b.length = a.length) :
  Calls Try.prog 77 #[.pointer (some ⟨G, 0, none⟩), .int .i64 3, .slice A1 a.length c1, .slice A2 b.length c2] w fun e w' => ∃ v : Value, e = .returned v ∧ Bd 27 G base ins ov w' (twoN ins 3 a b g).1 ∧ Kd.R (Kd.int .i64) 3 w' w.heap.size (fun k => k ≠ G) v (twoN ins 3 a b g).2 ∧ Fr 93 G base w w' := by
 have hGlt : G < w.heap.size := by obtain ⟨gv, hG, _⟩ := HBD; exact blk_lt hG
 have HBD0 := Aside0.mk HBD
 have Hha := Aside0.mk ha
 have Hhb2 := Aside0.mk hb2
 have HBL := Aside0.mk hbl
 clear HBD ha hb2 hbl
 have hu1 := Try.underlying25
 obtain ⟨g1, hg1⟩ : ∃ q, q = g ++ [(⟨1, 0, 0⟩ : S93)] := ⟨_, rfl⟩
 obtain ⟨d, hd⟩ : ∃ q, q = ins + (g.length : Int) := ⟨_, rfl⟩
 have ht : twoN ins 3 a b g = ((addN ins a b d g1 a.length).1, (addN ins a b d g1 a.length).2.1) := by rw [hd, hg1]; unfold twoN; simp
 have HT := Aside0.mk ht
 have G1 := Aside0.mk hg1
 have N0 := Aside0.mk hd
 have L1 : g1.length ≤ 900000 := by rw [hg1, List.length_append, List.length_singleton]; omega
 have F0 := Aside0.mk (Fr.refl 93 G base w)
 have tok1 : True := trivial
 have tok2 : True := trivial
 clear ht hg1 hd
 go_enter Try.func77, Try.ntmps77
 go_wp2_with (first | (go_at_call 101; have _t := tok1; refine (impl_Circuit_put.calls G base ins ov g g1 1 0 0 d _ (Nat.le_trans hb F0.out.size) HBD0.out hi0 hi1 (by omega) N0.out G1.out).mono ?_; rintro e w1 ⟨rfl, hbd, hf⟩; have B1 := Aside0.mk hbd; have F1 := Aside0.mk (F0.out.trans hf); clear tok1 hbd hf) | (go_at_call 103; have _t := tok2; refine (impl_Circuit_putAdd.calls G base ins ov g1 A1 A2 c1 c2 a b d w1 (Nat.le_trans hb F1.out.size) B1.out (Fr.C_step Hha.out F1.out) (Fr.C_step Hhb2.out F1.out) hi0 hi1 L1 (by omega) HBL.out).mono ?_; rintro e w2 ⟨v2, rfl, hbd, hv, hf⟩; have B2 := Aside0.mk hbd; have V2 := Aside0.mk (Kd.R_lower hv F1.out.size); have F2 := Aside0.mk (F1.out.trans hf); clear tok2 hbd hv hf))
 go_ret
 rw [HT.out]
 exact ⟨_, rfl, B2.out, V2.out, F2.out⟩

set_option maxHeartbeats 16000000 in
set_option maxRecDepth 100000 in
/-- The gates of the operator 4. -/
theorem impl_Circuit_putTwo_4.calls (G base : Nat) (ins : Int) (ov : Value) (g : List S93) (A1 A2 : Option Addr) (c1 c2 : Nat) (a b : List Int) (w : World) (hb : base ≤ w.heap.size) (HBD : Bd 27 G base ins ov w g) (ha : (∀ W', Fr 93 G base w W' → Kd.C (Kd.int .i64) W' A1 a.length a)) (hb2 : (∀ W', Fr 93 G base w W' → Kd.C (Kd.int .i64) W' A2 b.length b)) (hi0 : 0 ≤ ins) (hi1 : ins ≤ 1000000) (hl : g.length ≤ 900000) (hlm : g.length ≤ 800000) (hal : a.length ≤ 50) (hal1 : 1 ≤ a.length) (hc1 : a.length ≤ c1) (hc2 : b.length ≤ c2) (hbl : b.length = a.length) :
  Calls Try.prog 77 #[.pointer (some ⟨G, 0, none⟩), .int .i64 4, .slice A1 a.length c1, .slice A2 b.length c2] w fun e w' => ∃ v : Value, e = .returned v ∧ Bd 27 G base ins ov w' (twoN ins 4 a b g).1 ∧ Kd.R (Kd.int .i64) 3 w' w.heap.size (fun k => k ≠ G) v (twoN ins 4 a b g).2 ∧ Fr 93 G base w w' := by
 have hGlt : G < w.heap.size := by obtain ⟨gv, hG, _⟩ := HBD; exact blk_lt hG
 have HBD0 := Aside0.mk HBD
 have Hha := Aside0.mk ha
 have Hhb2 := Aside0.mk hb2
 have HBL := Aside0.mk hbl
 clear HBD ha hb2 hbl
 have hu1 := Try.underlying25
 obtain ⟨gn, hgn⟩ : ∃ q, (emitN ins (fun i => ⟨2, rd b i, 0⟩) g b.length).1 = q := ⟨_, rfl⟩
 obtain ⟨nn, hnn⟩ : ∃ q, (emitN ins (fun i => ⟨2, rd b i, 0⟩) g b.length).2 = q := ⟨_, rfl⟩
 have hlen := emitN_len ins (fun i => ⟨2, rd b i, 0⟩) g b.length
 rw [hgn, hnn] at hlen
 obtain ⟨hl1, hl2⟩ := hlen
 have hbn := HBL.out
 have Lg : gn.length ≤ 810000 := by omega
 have NL := Aside0.mk (show nn.length = a.length by omega)
 clear hl1 hl2 hbn
 obtain ⟨g1, hg1⟩ : ∃ q, q = gn ++ [(⟨1, 1, 0⟩ : S93)] := ⟨_, rfl⟩
 obtain ⟨d, hd⟩ : ∃ q, q = ins + (gn.length : Int) := ⟨_, rfl⟩
 have ht : twoN ins 4 a b g = ((addN ins a nn d g1 a.length).1, (addN ins a nn d g1 a.length).2.1) := by rw [hd, hg1, ← hgn, ← hnn]; unfold twoN; simp
 have HT := Aside0.mk ht
 have G1 := Aside0.mk hg1
 have N0 := Aside0.mk hd
 have HGN := Aside0.mk hgn
 have HNN := Aside0.mk hnn
 have L1 : g1.length ≤ 900000 := by rw [hg1, List.length_append, List.length_singleton]; omega
 have tok0 : True := trivial
 have tok1 : True := trivial
 have tok2 : True := trivial
 clear ht hg1 hd hgn hnn
 go_enter Try.func77, Try.ntmps77
 go_wp2_with (first | (go_at_call 76; have _t := tok0; refine (impl_Circuit_putNots.calls G base ins ov g A2 c2 b w hb HBD0.out Hhb2.out hi0 hi1 hl (by have := HBL.out; omega)).mono ?_; rintro e w0 ⟨v0, rfl, hbd, hv, hf⟩; rw [HGN.out] at hbd; rw [HNN.out] at hv; obtain ⟨A9, c9, rfl⟩ := Kd.R_slice hv; have B0 := Aside0.mk hbd; have V0 := Aside0.mk hv; have F0 := Aside0.mk hf; clear tok0 hbd hv hf) | (go_at_call 101; have _t := tok1; refine (impl_Circuit_put.calls G base ins ov gn g1 1 1 0 d _ (Nat.le_trans hb F0.out.size) B0.out hi0 hi1 (by omega) N0.out G1.out).mono ?_; rintro e w1 ⟨rfl, hbd, hf⟩; have B1 := Aside0.mk hbd; have F1 := Aside0.mk (F0.out.trans hf); have V1 := Aside0.mk (Fr.R hf V0.out (by decide) (fun _ hk => hk)); clear tok1 hbd hf) | (go_at_call 103; have _t := tok2; refine (impl_Circuit_putAdd.calls G base ins ov g1 A1 A9 c1 c9 a nn d w1 (Nat.le_trans hb F1.out.size) B1.out (Fr.C_step Hha.out F1.out) (Fr.C_own V1.out (by decide) (fun _ hk => hk)) hi0 hi1 L1 (by omega) NL.out).mono ?_; rintro e w2 ⟨v2, rfl, hbd, hv, hf⟩; have B2 := Aside0.mk hbd; have V2 := Aside0.mk (Kd.R_lower hv F1.out.size); have F2 := Aside0.mk (F1.out.trans hf); clear tok2 hbd hv hf))
 go_ret
 rw [HT.out]
 exact ⟨_, rfl, B2.out, V2.out, F2.out⟩

set_option maxHeartbeats 16000000 in
set_option maxRecDepth 100000 in
/-- The gates of the operator 5. -/
theorem impl_Circuit_putTwo_5.calls (G base : Nat) (ins : Int) (ov : Value) (g : List S93) (A1 A2 : Option Addr) (c1 c2 : Nat) (a b : List Int) (w : World) (hb : base ≤ w.heap.size) (HBD : Bd 27 G base ins ov w g) (ha : (∀ W', Fr 93 G base w W' → Kd.C (Kd.int .i64) W' A1 a.length a)) (hb2 : (∀ W', Fr 93 G base w W' → Kd.C (Kd.int .i64) W' A2 b.length b)) (hi0 : 0 ≤ ins) (hi1 : ins ≤ 1000000) (hl : g.length ≤ 900000) (hlm : g.length ≤ 800000) (hal : a.length ≤ 50) (hal1 : 1 ≤ a.length) (hc1 : a.length ≤ c1) (hc2 : b.length ≤ c2) (hbl : b.length = a.length) :
  Calls Try.prog 77 #[.pointer (some ⟨G, 0, none⟩), .int .i64 5, .slice A1 a.length c1, .slice A2 b.length c2] w fun e w' => ∃ v : Value, e = .returned v ∧ Bd 27 G base ins ov w' (twoN ins 5 a b g).1 ∧ Kd.R (Kd.int .i64) 3 w' w.heap.size (fun k => k ≠ G) v (twoN ins 5 a b g).2 ∧ Fr 93 G base w w' := by
 have hGlt : G < w.heap.size := by obtain ⟨gv, hG, _⟩ := HBD; exact blk_lt hG
 have HBD0 := Aside0.mk HBD
 have Hha := Aside0.mk ha
 have Hhb2 := Aside0.mk hb2
 have HBL := Aside0.mk hbl
 clear HBD ha hb2 hbl
 have hu1 := Try.underlying25
 have HT := Aside0.mk (show twoN ins 5 a b g = mulN ins a b g b.length from by unfold twoN; simp)
 have tok1 : True := trivial
 go_enter Try.func77, Try.ntmps77
 go_wp2_with (go_at_call 104; have _t := tok1; refine (impl_Circuit_putMul.calls G base ins ov g A1 A2 c1 c2 a b w hb HBD0.out Hha.out Hhb2.out hi0 hi1 hl hlm hal HBL.out).mono ?_; rintro e w1 ⟨v1, rfl, hbd, hv, hf⟩; have B1 := Aside0.mk hbd; have V1 := Aside0.mk hv; have F1 := Aside0.mk hf; clear tok1 hbd hv hf)
 go_ret
 rw [HT.out]
 exact ⟨_, rfl, B1.out, V1.out, F1.out⟩

set_option maxHeartbeats 16000000 in
set_option maxRecDepth 100000 in
/-- The gates of the operator 14. -/
theorem impl_Circuit_putTwo_14.calls (G base : Nat) (ins : Int) (ov : Value) (g : List S93) (A1 A2 : Option Addr) (c1 c2 : Nat) (a b : List Int) (w : World) (hb : base ≤ w.heap.size) (HBD : Bd 27 G base ins ov w g) (ha : (∀ W', Fr 93 G base w W' → Kd.C (Kd.int .i64) W' A1 a.length a)) (hb2 : (∀ W', Fr 93 G base w W' → Kd.C (Kd.int .i64) W' A2 b.length b)) (hi0 : 0 ≤ ins) (hi1 : ins ≤ 1000000) (hl : g.length ≤ 900000) (hlm : g.length ≤ 800000) (hal : a.length ≤ 50) (hal1 : 1 ≤ a.length) (hc1 : a.length ≤ c1) (hc2 : b.length ≤ c2) (hbl : b.length = a.length) :
  Calls Try.prog 77 #[.pointer (some ⟨G, 0, none⟩), .int .i64 14, .slice A1 a.length c1, .slice A2 b.length c2] w fun e w' => ∃ v : Value, e = .returned v ∧ Bd 27 G base ins ov w' (twoN ins 14 a b g).1 ∧ Kd.R (Kd.int .i64) 3 w' w.heap.size (fun k => k ≠ G) v (twoN ins 14 a b g).2 ∧ Fr 93 G base w w' := by
 have hGlt : G < w.heap.size := by obtain ⟨gv, hG, _⟩ := HBD; exact blk_lt hG
 have HBD0 := Aside0.mk HBD
 have Hha := Aside0.mk ha
 have Hhb2 := Aside0.mk hb2
 have HBL := Aside0.mk hbl
 clear HBD ha hb2 hbl
 have hu1 := Try.underlying25
 obtain ⟨x, hx⟩ : ∃ q, (eqN ins a b g a.length).2 = q := ⟨_, rfl⟩
 have ht : twoN ins 14 a b g = ((eqN ins a b g a.length).1, [x]) := by rw [← hx]; unfold twoN; simp
 have HT := Aside0.mk ht
 have HX := Aside0.mk hx
 have tok1 : True := trivial
 clear ht hx
 go_enter Try.func77, Try.ntmps77
 go_wp2_with (go_at_call 105; have _t := tok1; refine (impl_Circuit_putEq.calls G base ins ov g A1 A2 c1 c2 a b w hb HBD0.out Hha.out Hhb2.out hi0 hi1 hl (by omega) HBL.out).mono ?_; rintro e w1 ⟨rfl, hbd, hf⟩; rw [HX.out]; have B1 := Aside0.mk hbd; have F1 := Aside0.mk hf; have hs1 := hf.size; clear tok1 hbd hf)
 go_ret
 rw [HT.out]
 exact ⟨_, rfl, B1.out.alloc _, Kd.R_lower (R_one w1 3 (fun k => k ≠ G) x (by omega)) hs1, F1.out.alloc _⟩

set_option maxHeartbeats 16000000 in
set_option maxRecDepth 100000 in
/-- The gates of the operator 15. -/
theorem impl_Circuit_putTwo_15.calls (G base : Nat) (ins : Int) (ov : Value) (g : List S93) (A1 A2 : Option Addr) (c1 c2 : Nat) (a b : List Int) (w : World) (hb : base ≤ w.heap.size) (HBD : Bd 27 G base ins ov w g) (ha : (∀ W', Fr 93 G base w W' → Kd.C (Kd.int .i64) W' A1 a.length a)) (hb2 : (∀ W', Fr 93 G base w W' → Kd.C (Kd.int .i64) W' A2 b.length b)) (hi0 : 0 ≤ ins) (hi1 : ins ≤ 1000000) (hl : g.length ≤ 900000) (hlm : g.length ≤ 800000) (hal : a.length ≤ 50) (hal1 : 1 ≤ a.length) (hc1 : a.length ≤ c1) (hc2 : b.length ≤ c2) (hbl : b.length = a.length) :
  Calls Try.prog 77 #[.pointer (some ⟨G, 0, none⟩), .int .i64 15, .slice A1 a.length c1, .slice A2 b.length c2] w fun e w' => ∃ v : Value, e = .returned v ∧ Bd 27 G base ins ov w' (twoN ins 15 a b g).1 ∧ Kd.R (Kd.int .i64) 3 w' w.heap.size (fun k => k ≠ G) v (twoN ins 15 a b g).2 ∧ Fr 93 G base w w' := by
 have hGlt : G < w.heap.size := by obtain ⟨gv, hG, _⟩ := HBD; exact blk_lt hG
 have HBD0 := Aside0.mk HBD
 have Hha := Aside0.mk ha
 have Hhb2 := Aside0.mk hb2
 have HBL := Aside0.mk hbl
 clear HBD ha hb2 hbl
 have hu1 := Try.underlying25
 obtain ⟨x, hx⟩ : ∃ q, (lessN ins a b g a.length).2 = q := ⟨_, rfl⟩
 have ht : twoN ins 15 a b g = ((lessN ins a b g a.length).1, [x]) := by rw [← hx]; unfold twoN; simp
 have HT := Aside0.mk ht
 have HX := Aside0.mk hx
 have tok1 : True := trivial
 clear ht hx
 go_enter Try.func77, Try.ntmps77
 go_wp2_with (go_at_call 106; have _t := tok1; refine (impl_Circuit_putLess.calls G base ins ov g A1 A2 c1 c2 a b w hb HBD0.out Hha.out Hhb2.out hi0 hi1 hl (by omega) HBL.out).mono ?_; rintro e w1 ⟨rfl, hbd, hf⟩; rw [HX.out]; have B1 := Aside0.mk hbd; have F1 := Aside0.mk hf; have hs1 := hf.size; clear tok1 hbd hf)
 go_ret
 rw [HT.out]
 exact ⟨_, rfl, B1.out.alloc _, Kd.R_lower (R_one w1 3 (fun k => k ≠ G) x (by omega)) hs1, F1.out.alloc _⟩

set_option maxHeartbeats 16000000 in
set_option maxRecDepth 100000 in
/-- The gates of the operator 16. -/
theorem impl_Circuit_putTwo_16.calls (G base : Nat) (ins : Int) (ov : Value) (g : List S93) (A1 A2 : Option Addr) (c1 c2 : Nat) (a b : List Int) (w : World) (hb : base ≤ w.heap.size) (HBD : Bd 27 G base ins ov w g) (ha : (∀ W', Fr 93 G base w W' → Kd.C (Kd.int .i64) W' A1 a.length a)) (hb2 : (∀ W', Fr 93 G base w W' → Kd.C (Kd.int .i64) W' A2 b.length b)) (hi0 : 0 ≤ ins) (hi1 : ins ≤ 1000000) (hl : g.length ≤ 900000) (hlm : g.length ≤ 800000) (hal : a.length ≤ 50) (hal1 : 1 ≤ a.length) (hc1 : a.length ≤ c1) (hc2 : b.length ≤ c2) (hbl : b.length = a.length) :
  Calls Try.prog 77 #[.pointer (some ⟨G, 0, none⟩), .int .i64 16, .slice A1 a.length c1, .slice A2 b.length c2] w fun e w' => ∃ v : Value, e = .returned v ∧ Bd 27 G base ins ov w' (twoN ins 16 a b g).1 ∧ Kd.R (Kd.int .i64) 3 w' w.heap.size (fun k => k ≠ G) v (twoN ins 16 a b g).2 ∧ Fr 93 G base w w' := by
 have hGlt : G < w.heap.size := by obtain ⟨gv, hG, _⟩ := HBD; exact blk_lt hG
 have HBD0 := Aside0.mk HBD
 have Hha := Aside0.mk ha
 have Hhb2 := Aside0.mk hb2
 have HBL := Aside0.mk hbl
 clear HBD ha hb2 hbl
 have hu1 := Try.underlying25
 obtain ⟨m, hm⟩ : ∃ m, a.length = m + 1 := ⟨a.length - 1, by omega⟩
 have hmz : (a.length : Int) - 1 = (m : Int) := by omega
 have HLM := Aside0.mk (show m < a.length by omega)
 have HLB := Aside0.mk (show m < b.length by have := HBL.out; omega)
 have hlb := HLB.out
 have hla := HLM.out
 obtain ⟨x, hx⟩ : ∃ x, rd a m = x := ⟨_, rfl⟩
 obtain ⟨y, hy⟩ : ∃ y, rd b m = y := ⟨_, rfl⟩
 obtain ⟨d, hd⟩ : ∃ q, q = ins + (g.length : Int) := ⟨_, rfl⟩
 obtain ⟨g1, hg1⟩ : ∃ q, q = g ++ [(⟨2, x, 0⟩ : S93)] := ⟨_, rfl⟩
 obtain ⟨g2, hg2⟩ : ∃ q, q = g1 ++ [(⟨2, y, 0⟩ : S93)] := ⟨_, rfl⟩
 have n1 : (g1.length : Int) = g.length + 1 := by rw [hg1]; simp
 have n2 : (g2.length : Int) = g.length + 2 := by rw [hg2, List.length_append, List.length_singleton]; omega
 obtain ⟨p, hp⟩ : ∃ q, q = a.set m d := ⟨_, rfl⟩
 obtain ⟨q, hq⟩ : ∃ r, r = b.set m (d + 1) := ⟨_, rfl⟩
 obtain ⟨z, hz⟩ : ∃ r, (lessN ins p q g2 a.length).2 = r := ⟨_, rfl⟩
 have ht : twoN ins 16 a b g = ((lessN ins p q g2 a.length).1, [z]) := by rw [← hz, hp, hq, hg2, hg1, hd, ← hx, ← hy]; unfold twoN; rw [show a.length - 1 = m by omega]; simp
 have HT := Aside0.mk ht
 have HX := Aside0.mk hx
 have HY := Aside0.mk hy
 have HZ := Aside0.mk hz
 have HP := Aside0.mk hp
 have HQ := Aside0.mk hq
 have G1 := Aside0.mk hg1
 have G2 := Aside0.mk hg2
 have N0 := Aside0.mk hd
 have N1 := Aside0.mk (show d + 1 = ins + (g1.length : Int) by omega)
 have L1 : g1.length ≤ 1000000 := by omega
 have L2 : g2.length ≤ 900000 := by omega
 have hd0 : 0 ≤ d := by omega
 have hd1 : d ≤ 2000000 := by omega
 have OW1 := Aside0.mk (show slices_Clone_int.f a = some a from by unfold slices_Clone_int.f; rw [Option.bind_some, if_pos (by simp; omega), List.nil_append])
 have OW2 := Aside0.mk (show slices_Clone_int.f b = some b from by unfold slices_Clone_int.f; rw [Option.bind_some, if_pos (by have := HBL.out; simp; omega), List.nil_append])
 have F0 := Aside0.mk (Fr.refl 93 G base w)
 have tok1 : True := trivial
 have tok2 : True := trivial
 have tok3 : True := trivial
 have tok5 : True := trivial
 have tok7 : True := trivial
 obtain ⟨ad, e, hxa0⟩ := Kd.at_int (Hha.out _ F0.out) (m : Int) (by omega) (by omega)
 cases e
 obtain ⟨ae, e, hya0⟩ := Kd.at_int (Hhb2.out _ F0.out) (m : Int) (by omega) (by have := HLB.out; omega)
 cases e
 clear hxa0 hya0 ht hx hy hz hp hq hg1 hg2 hd n1 n2 hm
 go_enter Try.func77, Try.ntmps77
 go_wp2_with (first | (go_at_call 78; have _t := tok1; refine (slices_Clone_int.calls (some ad) c1 a a w (Hha.out _ F0.out) hc1 (OW1.out)).mono ?_; rintro e w1 ⟨v1, rfl, hv, hb_⟩; obtain ⟨gr1, cp1, hv_, _, _, hh1⟩ := Kd.R_form hv (by have := HBL.out; omega); cases hv_; have R1 := Aside0.mk (Kd.R_mono (Kd.R_bound hv) (ok' := fun k => k ≠ G ∧ w.heap.size ≤ k) (fun k hk => ⟨by have := hk.2.1; have := F0.out.size; omega, hk.2.1⟩)); have F1 := Aside0.mk (F0.out.step_below hb_); have B1 := Aside0.mk (HBD0.out.below hb_); clear tok1 hv hb_ hh1) | (go_at_call 78; have _t := tok2; refine (slices_Clone_int.calls (some ae) c2 b b w1 (Hhb2.out _ F1.out) hc2 (OW2.out)).mono ?_; rintro e w2 ⟨v2, rfl, hv, hb_⟩; obtain ⟨gr2, cp2, hv_, _, _, hh2⟩ := Kd.R_form hv (by have := HBL.out; omega); cases hv_; have R2 := Aside0.mk (Kd.R_mono (Kd.R_bound hv) (ok' := fun k => k ≠ G ∧ w1.heap.size ≤ k) (fun k hk => ⟨by have := hk.2.1; have := F1.out.size; omega, hk.2.1⟩)); have F2 := Aside0.mk (F1.out.step_below hb_); have B2 := Aside0.mk (B1.out.below hb_); have P2 := Aside0.mk (R_till R1.out); have P2 := Aside0.mk (Kd.R_below P2.out hb_); have hxa := Fr.cellAt F2.out Hha.out HLM.out HX.out; clear tok2 hv hb_ hh2) | (go_at_call 101; have _t := tok3; refine (impl_Circuit_put.calls G base ins ov g g1 2 x 0 d _ (Nat.le_trans hb F2.out.size) B2.out hi0 hi1 (by omega) N0.out G1.out).mono ?_; rintro e w3 ⟨rfl, hbd, hf⟩; have B3 := Aside0.mk hbd; have F3 := Aside0.mk (F2.out.trans hf); have P3 := Aside0.mk (Fr.R hf P2.out (by decide) (fun _ hk => hk.1.1)); have R3 := Aside0.mk (Fr.R hf R2.out (by decide) (fun _ hk => hk.1)); obtain ⟨⟨u3, hc3⟩, hf3⟩ := R_placeI P3.out m HLM.out; clear hxa; clear tok3 hbd hf) | ((with_reducible refine gate_store (t := 3) (p := 92) rfl ?_); refine store_event (t := 3) (p := 92) (v := .tmp 91) (w1 := w3.setCell ⟨gr1, m, none⟩ (.int .i64 d)) ?hg ?ho ?hn ?hr ?_; (case ho => rfl); (case hg => rfl); (case hn => rfl); (case hr => first | (go_simp; done) | (go_simp; rfl)); intro w4 hw; obtain ⟨hR4, hg4⟩ := R_setI P3.out m HLM.out d; rw [← hw] at hR4 hg4; have P4 := Aside0.mk hR4; have R4 := Aside0.mk (R_new_grown R3.out hg4 (fun k e_ => by injection e_ with e_; have := (P3.out.1 gr1 rfl).2; omega)); have B4 := Aside0.mk (Bd.grown B3.out hg4 (fun k e_ => by injection e_ with e_; rw [← e_]; exact Kd.R_typed P3.out gr1 rfl) (by decide) (by decide)); have F4 := Aside0.mk (Fr.grown_new F3.out hg4 (fun k e_ => by injection e_ with e_; have := own_ge P3.out gr1 rfl; omega)); have hxb := Fr.cellAt F4.out Hhb2.out HLB.out HY.out; clear hw hR4 hg4 hc3 hf3) | (go_at_call 101; have _t := tok5; refine (impl_Circuit_put.calls G base ins ov g1 g2 2 y 0 (d + 1) _ (Nat.le_trans hb F4.out.size) B4.out hi0 hi1 L1 N1.out G2.out).mono ?_; rintro e w5 ⟨rfl, hbd, hf⟩; have B5 := Aside0.mk hbd; have F5 := Aside0.mk (F4.out.trans hf); have P5 := Aside0.mk (Fr.R hf P4.out (by decide) (fun _ hk => hk.1.1)); have R5 := Aside0.mk (Fr.R hf R4.out (by decide) (fun _ hk => hk.1)); obtain ⟨⟨u5, hc5⟩, hf5⟩ := R_placeI R5.out m HLB.out; clear hxb; clear tok5 hbd hf) | ((with_reducible refine gate_store (t := 3) (p := 101) rfl ?_); refine store_event (t := 3) (p := 101) (v := .tmp 100) (w1 := w5.setCell ⟨gr2, m, none⟩ (.int .i64 (d + 1))) ?hg ?ho ?hn ?hr ?_; (case ho => rfl); (case hg => rfl); (case hn => rfl); (case hr => first | (go_simp; done) | (go_simp; rfl)); intro w6 hw; obtain ⟨hR6, hg6⟩ := R_setI R5.out m HLB.out (d + 1); rw [← hw] at hR6 hg6; have R6 := Aside0.mk hR6; have P6 := Aside0.mk (R_old_grown P5.out hg6 (fun k e_ => by injection e_ with e_; have := (R5.out.1 gr2 rfl).2; omega)); have B6 := Aside0.mk (Bd.grown B5.out hg6 (fun k e_ => by injection e_ with e_; rw [← e_]; exact Kd.R_typed R5.out gr2 rfl) (by decide) (by decide)); have F6 := Aside0.mk (Fr.grown_new F5.out hg6 (fun k e_ => by injection e_ with e_; have := own_ge R5.out gr2 rfl; have := F1.out.size; omega)); have hp6 := P6.out; rw [← HP.out] at hp6; have hq6 := R6.out; rw [← HQ.out] at hq6; have CP6 := Aside0.mk (Fr.C_own (tG := 93) (G := G) (base := base) hp6 (by decide) (fun _ hk => hk.1.1)); have CQ6 := Aside0.mk (Fr.C_own (tG := 93) (G := G) (base := base) hq6 (by decide) (fun _ hk => hk.1)); clear hp6 hq6 hw hR6 hg6 hc5 hf5) | (go_at_call 106; have _t := tok7; refine calls_of_args (args' := #[.pointer (some ⟨G, 0, none⟩), .slice (some ⟨gr1, 0, none⟩) p.length cp1, .slice (some ⟨gr2, 0, none⟩) q.length cp2]) (by rw [HP.out, HQ.out, List.length_set, List.length_set]) ?_; refine (impl_Circuit_putLess.calls G base ins ov g2 (some ⟨gr1, 0, none⟩) (some ⟨gr2, 0, none⟩) cp1 cp2 p q w6 (Nat.le_trans hb F6.out.size) B6.out CP6.out CQ6.out hi0 hi1 L2 (by rw [HP.out, List.length_set]; omega) (by rw [HP.out, HQ.out, List.length_set, List.length_set]; exact HBL.out)).mono ?_; rintro e w7 ⟨rfl, hbd, hf⟩; rw [show p.length = a.length by rw [HP.out, List.length_set]] at hbd ⊢; rw [HZ.out]; have B7 := Aside0.mk hbd; have F7 := Aside0.mk (F6.out.trans hf); have hs7 := F7.out.size; clear tok7 hbd hf))
 go_ret
 rw [HT.out]
 exact ⟨_, rfl, B7.out.alloc _, Kd.R_lower (R_one w7 3 (fun k => k ≠ G) z (by omega)) hs7, F7.out.alloc _⟩

theorem impl_Circuit_putTwo.calls (G base : Nat) (ins : Int) (ov : Value) (g : List S93) (op : Int) (A1 A2 : Option Addr) (c1 c2 : Nat) (a b : List Int) (w : World) (hop : twoOp op = true) (hb : base ≤ w.heap.size) (HBD : Bd 27 G base ins ov w g) (ha : (∀ W', Fr 93 G base w W' → Kd.C (Kd.int .i64) W' A1 a.length a)) (hb2 : (∀ W', Fr 93 G base w W' → Kd.C (Kd.int .i64) W' A2 b.length b)) (hi0 : 0 ≤ ins) (hi1 : ins ≤ 1000000) (hl : g.length ≤ 900000) (hlm : g.length ≤ 800000) (hal : a.length ≤ 50) (hal1 : 1 ≤ a.length) (hc1 : a.length ≤ c1) (hc2 : b.length ≤ c2) (hbl : b.length = a.length) :
  Calls Try.prog 77 #[.pointer (some ⟨G, 0, none⟩), .int .i64 op, .slice A1 a.length c1, .slice A2 b.length c2] w fun e w' => ∃ v : Value, e = .returned v ∧ Bd 27 G base ins ov w' (twoN ins op a b g).1 ∧ Kd.R (Kd.int .i64) 3 w' w.heap.size (fun k => k ≠ G) v (twoN ins op a b g).2 ∧ Fr 93 G base w w' := by
 have h : op = 3 ∨ op = 4 ∨ op = 5 ∨ op = 8 ∨ op = 9 ∨ op = 10 ∨ op = 14 ∨ op = 15 ∨ op = 16 ∨ op = 17 ∨ op = 18 := by unfold twoOp at hop; simp only [Bool.or_eq_true, beq_iff_eq] at hop; omega
 clear hop
 rcases h with rfl | rfl | rfl | rfl | rfl | rfl | rfl | rfl | rfl | rfl | rfl
 ·exact impl_Circuit_putTwo_3.calls G base ins ov g A1 A2 c1 c2 a b w hb HBD ha hb2 hi0 hi1 hl hlm hal hal1 hc1 hc2 hbl
 ·exact impl_Circuit_putTwo_4.calls G base ins ov g A1 A2 c1 c2 a b w hb HBD ha hb2 hi0 hi1 hl hlm hal hal1 hc1 hc2 hbl
 ·exact impl_Circuit_putTwo_5.calls G base ins ov g A1 A2 c1 c2 a b w hb HBD ha hb2 hi0 hi1 hl hlm hal hal1 hc1 hc2 hbl
 ·exact impl_Circuit_putTwo_8.calls G base ins ov g A1 A2 c1 c2 a b w hb HBD ha hb2 hi0 hi1 hl hlm hal hal1 hc1 hc2 hbl
 ·exact impl_Circuit_putTwo_9.calls G base ins ov g A1 A2 c1 c2 a b w hb HBD ha hb2 hi0 hi1 hl hlm hal hal1 hc1 hc2 hbl
 ·exact impl_Circuit_putTwo_10.calls G base ins ov g A1 A2 c1 c2 a b w hb HBD ha hb2 hi0 hi1 hl hlm hal hal1 hc1 hc2 hbl
 ·exact impl_Circuit_putTwo_14.calls G base ins ov g A1 A2 c1 c2 a b w hb HBD ha hb2 hi0 hi1 hl hlm hal hal1 hc1 hc2 hbl
 ·exact impl_Circuit_putTwo_15.calls G base ins ov g A1 A2 c1 c2 a b w hb HBD ha hb2 hi0 hi1 hl hlm hal hal1 hc1 hc2 hbl
 ·exact impl_Circuit_putTwo_16.calls G base ins ov g A1 A2 c1 c2 a b w hb HBD ha hb2 hi0 hi1 hl hlm hal hal1 hc1 hc2 hbl
 ·exact impl_Circuit_putTwo_17.calls G base ins ov g A1 A2 c1 c2 a b w hb HBD ha hb2 hi0 hi1 hl hlm hal hal1 hc1 hc2 hbl
 ·exact impl_Circuit_putTwo_18.calls G base ins ov g A1 A2 c1 c2 a b w hb HBD ha hb2 hi0 hi1 hl hlm hal hal1 hc1 hc2 hbl

end Go.Proofs.Ytckgeanmljmhfaa.X
