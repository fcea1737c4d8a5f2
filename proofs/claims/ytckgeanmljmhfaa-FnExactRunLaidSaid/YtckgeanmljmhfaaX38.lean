/- Go functions as Lean functions, each with the proof that its call comes to just its answer. Conditions: the arguments are of their kinds. -/
import Derived.Test.YtckgeanmljmhfaaX0
import Derived.Test.YtckgeanmljmhfaaX5
import Derived.Test.YtckgeanmljmhfaaX27
import Derived.StillTailTactics
namespace Go.Proofs.Ytckgeanmljmhfaa.X
open Go.RowKit Go.Proofs.YtckgeanmljmhfaaW.PrintWords Go.Proofs.YtckgeanmljmhfaaW.PrintLast Go.Proofs.YtckgeanmljmhfaaW.PrintMore
attribute [local go_sem] max2_int min2_int max_two min_two max_three min_three max_four min_four   -- for this text's walks alone
set_option linter.unusedVariables false
set_option linter.unusedSimpArgs false

-- HAND
/-! ### impl_gatesFor: function 41 -/
-- IMPORT Derived.StillTailTactics
/-- The circuit of an expression: its inputs, its gates, its result's wires. -/
def impl_gatesFor.f (a0 : Int) (a1 : Int) (l2 : List S63) : Option (Int × List S93 × List Int) := gatesOf a0 a1 l2
set_option maxHeartbeats 32000000 in
set_option maxRecDepth 100000 in
theorem impl_gatesFor.calls (a0 : Int) (a1 : Int) (A2 : Option Addr) (c2 : Nat) (l2 : List S63) (r1 : Int) (r2 : List S93) (r3 : List Int) (w : World) (hr2 : Kd.C k63 w A2 l2.length l2) (hc2 : l2.length ≤ c2) (h : impl_gatesFor.f a0 a1 l2 = some (r1, r2, r3)) :
  Calls Try.prog 41 #[.int .i64 a0, .int .i64 a1, .slice A2 l2.length c2] w fun e w' => ∃ v1_ v2_ : Value, e = .returned (.agg #[.int .i64 r1, v1_, v2_]) ∧ Kd.R k93 93 w' w.heap.size (fun _ => True) v1_ r2 ∧ Kd.R (Kd.int .i64) 3 w' w.heap.size (fun _ => True) v2_ r3 ∧ Below w.heap.size w w' := by
 obtain ⟨wd, rest, rfl, hw1, hw4, h10, h14, hll, hr1, hi0, hi1, hgf, ho⟩ := gatesFor_open (show gatesOf _ a1 l2 = _ from h)
 have hmul : wrap64 ((wd : Int) * a1) = r1 := by rw [hr1]; unfold wrap64; omega
 have HGF := Aside0.mk hgf
 have HR := Aside0.mk hr2
 have HO := Aside0.mk ho
 clear h hr2 hr1 hgf ho
 have hu1 := Try.underlying25
 have hu2 := Try.underlying86
 have hu3 := Try.underlying27
 have hu4 := Try.underlying63
 have hu5 := Try.underlying30
 have tokK : True := trivial
 have tokG : True := trivial
 go_enter Try.func41, Try.ntmps41
 go_wp2_with (first
  | ((with_reducible refine gate_dst (N := 6) rfl ?_); refine box_event ?hg (N := 6) ?hd (cs := #[.int .i64 0, .slice none 0 0, .slice none 0 0]) (t := 27) ?hr ?_; (case hd => rfl); (case hg => rfl); (case hr => first | (go_simp; done) | (go_simp; rfl)); intro K hK w1 hKb hb1; have HK1 := Aside0.mk hKb; have L1 := Aside0.mk hb1; have HKe := Aside0.mk hK; clear hKb hb1 hK)
  | ((with_reducible refine gate_dst (N := 7) rfl ?_); refine box_event ?hg (N := 7) ?hd (cs := #[.int .i64 0, .slice none 0 0, .slice none 0 0]) (t := 27) ?hr ?_; (case hd => rfl); (case hg => rfl); (case hr => first | (go_simp; done) | (go_simp; rfl)); intro G hG w2 hGb hb2; have HG2 := Aside0.mk hGb; have L2 := Aside0.mk hb2; have HGe := Aside0.mk hG; have hc20 : w2.cell? ⟨G, 0, none⟩ = some (.int .i64 0) := (blk_cell hGb 0).trans rfl; have hc21 : w2.cell? ⟨G, 1, none⟩ = some (.slice none 0 0) := (blk_cell hGb 1).trans rfl; have hc22 : w2.cell? ⟨G, 2, none⟩ = some (.slice none 0 0) := (blk_cell hGb 2).trans rfl; have hf20 := blk_frozen hGb 0; have hf21 := blk_frozen hGb 1; have hf22 := blk_frozen hGb 2; clear hGb hb2 hG))
 have hszK : w.heap.size ≤ K := by rw [HKe.out]; exact Nat.le_refl _
 have hszG : G = w1.heap.size + 1 := by rw [HGe.out]; simp
 have hKG : K < w1.heap.size := blk_lt HK1.out
 have hsz1 : w.heap.size ≤ w1.heap.size := L1.out.size
 have HG5 := Aside0.mk (blk_put (blk_put (blk_put HG2.out 0 (.int .i64 r1) rfl) 1 (.slice none 0 0) rfl) 2 (.slice none 0 0) rfl)
 have hK2 : w2.heap[K]? = some (.cells #[.int .i64 0, .slice none 0 0, .slice none 0 0] 27 (0, 0)) := blk_below (blk_alloc HK1.out _) L2.out
 have HK5 := Aside0.mk (blk_far (blk_far (blk_far hK2 (p := ⟨G, 0, none⟩) (by show K ≠ G; omega) (.int .i64 r1)) (p := ⟨G, 1, none⟩) (by show K ≠ G; omega) (.slice none 0 0)) (p := ⟨G, 2, none⟩) (by show K ≠ G; omega) (.slice none 0 0))
 have hV2 := Kd.R_below (R_freshL (Kd.slice 3 (Kd.int .i64)) w1 25 (fun k => k ≠ G) rfl (by omega)) L2.out
 have V5 := Aside0.mk (Kd.R_lower (Kd.R_set (Kd.R_set (Kd.R_set hV2 HG2.out (by decide) 0 (.int .i64 r1)) (blk_put HG2.out 0 (.int .i64 r1) rfl) (by decide) 1 (.slice none 0 0)) (blk_put (blk_put HG2.out 0 (.int .i64 r1) rfl) 1 (.slice none 0 0) rfl) (by decide) 2 (.slice none 0 0)) hsz1)
 have L5 := Aside0.mk ((((below_step (below_alloc L1.out _) L2.out).setCell (p := ⟨G, 0, none⟩) (by show w.heap.size ≤ G; omega) (.int .i64 r1)).setCell (p := ⟨G, 1, none⟩) (by show w.heap.size ≤ G; omega) (.slice none 0 0)).setCell (p := ⟨G, 2, none⟩) (by show w.heap.size ≤ G; omega) (.slice none 0 0))
 obtain ⟨w5, hw5⟩ : ∃ q, q = (((w2.setCell ⟨G, 0, none⟩ (.int .i64 r1)).setCell ⟨G, 1, none⟩ (.slice none 0 0)).setCell ⟨G, 2, none⟩ (.slice none 0 0)) := ⟨_, rfl⟩
 rw [← hw5] at HG5 HK5 V5 L5 ⊢
 have B5 : Aside0 (Bd 27 G w.heap.size r1 (.slice none 0 0) w5 []) := ⟨⟨.slice none 0 0, HG5.out, Kd.R_nil _ _ _ _ _⟩⟩
 have hGw : w.heap.size ≤ G := by omega
 have hKneG : K ≠ G := by omega
 clear hw5 hV2 hK2 HG2 HK1 L1 L2 HG5 HKe HGe hc20 hc21 hc22 hf20 hf21 hf22 hszG hKG hmul h10 h14 hsz1
 go_loopg [8, 21] l2.length (fun gg ss si wr => ∃ (kk : Nat) (gk : List S93) (stk : List (List Int)), kk ≤ l2.length ∧ l2.length - kk ≤ gg ∧ si = .int .i64 kk ∧ Aside0 (gfold wd r1 (l2.drop kk) (gk, stk) = some (r2, r3 :: rest)) ∧ Aside0 (Bd 27 G w.heap.size r1 (.slice none 0 0) wr gk) ∧ Aside0 (Kd.R (Kd.slice 3 (Kd.int .i64)) 25 wr w.heap.size (fun k => k ≠ G) ss stk) ∧ Aside0 (wr.heap[K]? = some (.cells #[.int .i64 0, .slice none 0 0, .slice none 0 0] 27 (0, 0))) ∧ Aside0 (Below w.heap.size w wr))
 case atStart => exact ⟨0, [], [], Nat.zero_le _, by omega, rfl, HGF, B5, V5, HK5, L5⟩
 case round =>
  clear HGF B5 V5 HK5 L5
  obtain ⟨kk, gk, stk, hkk, hg, rfl, HGF, HB, HV, HK, HL⟩ := hrel
  by_cases hlt : kk < l2.length
  ·have hltz : (kk : Int) < (l2.length : Int) := by omega
   obtain ⟨s1, hs1, hrest⟩ := gfold_at HGF.out hlt
   obtain ⟨ad, e, hx0, hx1⟩ := at_T63 (Kd.C_below HR.out HL.out) (kk : Int) (by omega) hltz
   cases e
   obtain ⟨op, hop⟩ : ∃ q, (rd_T63 l2 (kk : Int)).f0 = q := ⟨_, rfl⟩
   obtain ⟨nn, hnn⟩ : ∃ q, (rd_T63 l2 (kk : Int)).f1 = q := ⟨_, rfl⟩
   rw [hop, Int.toNat_natCast] at hx0
   rw [hnn, Int.toNat_natCast] at hx1
   obtain ⟨⟨hgl, hsl⟩, hcase⟩ := gstep_cases hs1
   rw [hop, hnn] at hcase
   dsimp only at hgl hsl
   have HREST := Aside0.mk hrest
   have hszr := HL.out.size
   obtain ⟨A8, c8, rfl⟩ := Kd.R_slice HV.out
   have hGr : G < wr.heap.size := by obtain ⟨_, hG_, _⟩ := HB.out; exact blk_lt hG_
   clear hs1 hrest hop hnn HGF
   rcases hcase with ⟨rfl, hn0, hn1, rfl⟩ | ⟨rfl, hn0, hn1, rfl⟩ | ⟨rfl, hn0, hn1, rfl⟩ | ⟨hop, r, a, rfl, hal, rfl⟩ | ⟨hop, r, a, b, rfl, hbl, hal1, hal, rfl⟩
   ·obtain ⟨w8, hw8⟩ : ∃ q, q = wr.alloc (.cells #[.int .i64 (2), .int .u64 nn] 63) := ⟨_, rfl⟩
    have B8 : Aside0 (Bd 27 G w.heap.size r1 (.slice none 0 0) w8 gk) := ⟨by rw [hw8]; exact HB.out.alloc _⟩
    have V8 := Aside0.mk (Kd.R_alloc HV.out (.cells #[.int .i64 (2), .int .u64 nn] 63))
    have K8 := Aside0.mk (blk_alloc HK.out (.cells #[.int .i64 (2), .int .u64 nn] 63))
    have L8 := Aside0.mk (below_alloc HL.out (.cells #[.int .i64 (2), .int .u64 nn] 63))
    have HW8 := Aside0.mk hw8
    rw [← hw8] at V8 K8 L8
    have hsz8 : w8.heap.size = wr.heap.size + 1 := by rw [hw8]; simp
    obtain ⟨q, hq⟩ : ∃ q, nn * (wd : Int) = q := ⟨_, rfl⟩
    have hq0 : 0 ≤ q := by rw [← hq]; exact Int.mul_nonneg hn0 (by omega)
    have hq1 : q ≤ 4000 := by have : nn * (wd : Int) ≤ 1000 * 4 := Int.mul_le_mul hn1 (by omega) (by omega) (by omega); omega
    have HQ := Aside0.mk hq
    clear hq
    have hG8 : Aside0 (G < w8.heap.size) := ⟨by omega⟩
    go_wp2
    rw [← HW8.out]
    have P0 := Aside0.mk (R_fresh w8 3 (fun k => k ≠ G) (by omega))
    have Q0 := Aside0.mk (below_alloc (Below.refl w8.heap.size w8) (.cells #[] 3))
    have hx81 : w8.cell? ⟨wr.heap.size, 1, none⟩ = some (.int .u64 nn) := by rw [HW8.out]; simp
    have HX81 := Aside0.mk hx81
    obtain ⟨X, hX⟩ : ∃ q, wr.heap.size = q := ⟨_, rfl⟩
    rw [hX] at HX81 hsz8 ⊢
    clear hx81
    have hszw8 := L8.out.size
    obtain ⟨A12, hA12⟩ : ∃ q, w8.heap.size = q := ⟨_, rfl⟩
    go_loopg [12, 52] wd (fun gg so si wr => ∃ ii : Nat, ii ≤ wd ∧ wd - ii ≤ gg ∧ si = .int .i64 ii ∧ Aside0 (Kd.R (Kd.int .i64) 3 wr w8.heap.size (fun k => k ≠ G) so (varW wd nn ii)) ∧ Aside0 (Below w8.heap.size w8 wr))
    case atStart => exact ⟨0, Nat.zero_le _, by omega, rfl, by simpa [hX, hsz8, varW] using P0, Q0⟩
    case round =>
     clear P0 Q0
     obtain ⟨ii, hii, hg2, rfl, HP, HQ2⟩ := hrel
     have hvl := varW_len wd nn ii
     by_cases hlt2 : ii < wd
     ·have hlt2z : (ii : Int) < (wd : Int) := by omega
      have hs2 : varW wd nn (ii + 1) = varW wd nn ii ++ [q + ii] := by rw [← HQ.out]; rfl
      obtain ⟨os, hos⟩ : ∃ q, varW wd nn ii = q := ⟨_, rfl⟩
      rw [hos] at HP hs2 hvl
      have hol : os.length ≤ 1000 := by omega
      have HS2 := Aside0.mk hs2
      clear hos hs2 hvl
      have hxi : wr.cell? ⟨X, 1, none⟩ = some (.int .u64 nn) := (HQ2.out.cell (p := ⟨X, 1, none⟩) (by show X < w8.heap.size; omega)).trans HX81.out
      have hmul : wrap64 (nn * (wd : Int)) = q := by have := HQ.out; unfold wrap64; omega
      have hszi := HQ2.out.size
      go_wp2_with ((with_reducible refine gate_builtin (b := .append) (xs := #[.tmp 55, .tmp 63]) rfl ?_); at_builtin; refine Kd.R_append (Kd.int .i64) (w0 := w8) w8.heap.size rfl (.tmp 55) (.tmp 63) 25 3 (.int .i64 0) 8 rfl Try.underlying25 info_int rfl (by decide) (by omega) _ os (q + ii) [.int .i64 (q + ii)] (fun k => k ≠ G) (fun _ => False) rfl (by first | (go_simp; done) | (go_simp; rfl)) ?aP (fun _ hk => hk.elim) ?aF ?aO ?aB ?aS ?aL ?_; (case aP => exact rfl); (case aF => intro k hk; omega); (case aO => exact HP.out); (case aB => exact HQ2.out); (case aS => exact hszi); (case aL => omega); intro v22 w22 hv hb22 _ _; have P22 := Aside0.mk hv; have Q22 := Aside0.mk hb22; clear hv hb22)
      go_roundg (wd - (ii + 1))
      case measure => omega
      case rel => exact ⟨ii + 1, by omega, by omega, by go_num, by rw [HS2.out]; exact P22, Q22⟩
     ·have hlt2z : ¬ (ii : Int) < (wd : Int) := by omega
      obtain rfl : ii = wd := by omega
      obtain ⟨A9, c9, rfl⟩ := Kd.R_slice HP.out
      obtain ⟨vw, hvw⟩ : ∃ q, varW ii nn ii = q := ⟨_, rfl⟩
      rw [hvw] at HP HREST ⊢
      clear hvw
      have RV9 := Aside0.mk (Kd.R_lower HP.out hszw8)
      have hsz9 := HQ2.out.size
      have V9 := Aside0.mk (Kd.R_below V8.out HQ2.out)
      have B9 := Aside0.mk (B8.out.below HQ2.out)
      have K9 := Aside0.mk (blk_below K8.out HQ2.out)
      have L9 := Aside0.mk (below_step L8.out HQ2.out)
      have hG9 : Aside0 (G < wr.heap.size) := ⟨by omega⟩
      go_wp2_with ((with_reducible refine gate_builtin (b := .append) (xs := #[.tmp 66, .tmp 68]) rfl ?_); at_builtin; refine Kd.R_append (Kd.slice 3 (Kd.int .i64)) (w0 := wr) w.heap.size rfl (.tmp 66) (.tmp 68) 86 25 (.slice none 0 0) 24 rfl Try.underlying86 info_ints rfl (by decide) (by omega) (.slice A8 stk.length c8) stk vw [.slice A9 vw.length c9] (fun k => k ≠ G) (fun k => k ≠ G ∧ some k ≠ (.slice A8 stk.length c8 : Value).ownBlock) (by first | rfl | (go_simp; done) | (go_simp; rfl)) (by first | (go_simp; done) | (go_simp; rfl)) ?aP (fun _ hk => hk) ?aF ?aO ?aB ?aS ?aL ?_; (case aP => exact ⟨_, rfl, Kd.R_apart' RV9.out (Kd.R_typed V9.out) (by decide)⟩); (case aF => intro k hk; have hsz_ := hG9.out; omega); (case aO => exact V9.out); (case aB => exact Below.refl _ _); (case aS => exact L9.out.size); (case aL => omega); intro v30 w30 hv _ hg_ _; have V30 := Aside0.mk hv; have B30 := Aside0.mk (Bd.grown B9.out hg_ (Kd.R_typed V9.out) (by decide) (by decide)); have K30 := Aside0.mk (blk_typed K9.out hg_ (Kd.R_typed V9.out) (by decide)); have L30 := Aside0.mk (L9.out.grown hg_ L9.out.size (fun k e_ => own_ge V9.out k e_)); clear hv hg_)
      go_roundg (l2.length - (kk + 1))
      case measure => omega
      case rel => exact ⟨kk + 1, _, _, by omega, by omega, by go_num, HREST, B30, V30, K30, L30⟩
   ·obtain ⟨w8, hw8⟩ : ∃ q, q = wr.alloc (.cells #[.int .i64 (1), .int .u64 nn] 63) := ⟨_, rfl⟩
    have B8 : Aside0 (Bd 27 G w.heap.size r1 (.slice none 0 0) w8 gk) := ⟨by rw [hw8]; exact HB.out.alloc _⟩
    have V8 := Aside0.mk (Kd.R_alloc HV.out (.cells #[.int .i64 (1), .int .u64 nn] 63))
    have K8 := Aside0.mk (blk_alloc HK.out (.cells #[.int .i64 (1), .int .u64 nn] 63))
    have L8 := Aside0.mk (below_alloc HL.out (.cells #[.int .i64 (1), .int .u64 nn] 63))
    have HW8 := Aside0.mk hw8
    rw [← hw8] at V8 K8 L8
    have hsz8 : w8.heap.size = wr.heap.size + 1 := by rw [hw8]; simp
    obtain ⟨ga, hga⟩ : ∃ q, (emitN r1 (fun i => ⟨1, bitv nn i, 0⟩) gk wd).1 = q := ⟨_, rfl⟩
    obtain ⟨va, hva⟩ : ∃ q, (emitN r1 (fun i => ⟨1, bitv nn i, 0⟩) gk wd).2 = q := ⟨_, rfl⟩
    have hrest := HREST.out
    rw [hga, hva] at hrest
    replace HREST := Aside0.mk hrest
    have HGA := Aside0.mk hga
    have HVA := Aside0.mk hva
    have hG8 : Aside0 (G < w8.heap.size) := ⟨by omega⟩
    have tok1 : True := trivial
    clear hrest hga hva
    go_wp2_with (first | (go_at_call 75; have _t := tok1; rw [← HW8.out]; refine (impl_Circuit_putBits.calls G w.heap.size r1 (.slice none 0 0) gk nn wd w8 L8.out.size B8.out hi0 (by omega) (by omega) (by omega) hn0 hn1).mono ?_; rintro e w9 ⟨v9, rfl, hbd, hv, hf⟩; rw [HGA.out] at hbd; rw [HVA.out] at hv; obtain ⟨A9, c9, rfl⟩ := Kd.R_slice hv; have B9 := Aside0.mk hbd; have V9 := Aside0.mk (Fr.R hf V8.out (by decide) (fun _ hk => hk)); have K9 := Aside0.mk (blk_fr K8.out hf hKneG (by decide)); have hle9 := L8.out.size; have L9 := Aside0.mk (L8.out.trans (hf.below hGw (Nat.le_refl _) hle9)); have hG9 : Aside0 (G < w9.heap.size) := ⟨Nat.lt_of_lt_of_le hG8.out hf.size⟩; have RV9 := Aside0.mk (Kd.R_lower hv hle9); clear tok1 hbd hv hf) | ((with_reducible refine gate_builtin (b := .append) (xs := #[.tmp 72, .tmp 77]) rfl ?_); at_builtin; refine Kd.R_append (Kd.slice 3 (Kd.int .i64)) (w0 := w9) w.heap.size rfl (.tmp 72) (.tmp 77) 86 25 (.slice none 0 0) 24 rfl Try.underlying86 info_ints rfl (by decide) (by omega) (.slice A8 stk.length c8) stk va [.slice A9 va.length c9] (fun k => k ≠ G) (fun k => k ≠ G ∧ some k ≠ (.slice A8 stk.length c8 : Value).ownBlock) (by first | rfl | (go_simp; done) | (go_simp; rfl)) (by first | (go_simp; done) | (go_simp; rfl)) ?aP (fun _ hk => hk) ?aF ?aO ?aB ?aS ?aL ?_; (case aP => exact ⟨_, rfl, Kd.R_apart' RV9.out (Kd.R_typed V9.out) (by decide)⟩); (case aF => intro k hk; have hsz_ := hG9.out; omega); (case aO => exact V9.out); (case aB => exact Below.refl _ _); (case aS => exact L9.out.size); (case aL => omega); intro v30 w30 hv _ hg_ _; have V30 := Aside0.mk hv; have B30 := Aside0.mk (Bd.grown B9.out hg_ (Kd.R_typed V9.out) (by decide) (by decide)); have K30 := Aside0.mk (blk_typed K9.out hg_ (Kd.R_typed V9.out) (by decide)); have L30 := Aside0.mk (L9.out.grown hg_ L9.out.size (fun k e_ => own_ge V9.out k e_)); clear hv hg_))
    go_roundg (l2.length - (kk + 1))
    case measure => omega
    case rel => exact ⟨kk + 1, _, _, by omega, by omega, by go_num, HREST, B30, V30, K30, L30⟩
   ·obtain ⟨w8, hw8⟩ : ∃ q, q = wr.alloc (.cells #[.int .i64 (20), .int .u64 nn] 63) := ⟨_, rfl⟩
    have B8 : Aside0 (Bd 27 G w.heap.size r1 (.slice none 0 0) w8 gk) := ⟨by rw [hw8]; exact HB.out.alloc _⟩
    have V8 := Aside0.mk (Kd.R_alloc HV.out (.cells #[.int .i64 (20), .int .u64 nn] 63))
    have K8 := Aside0.mk (blk_alloc HK.out (.cells #[.int .i64 (20), .int .u64 nn] 63))
    have L8 := Aside0.mk (below_alloc HL.out (.cells #[.int .i64 (20), .int .u64 nn] 63))
    have HW8 := Aside0.mk hw8
    rw [← hw8] at V8 K8 L8
    have hsz8 : w8.heap.size = wr.heap.size + 1 := by rw [hw8]; simp
    obtain ⟨ga, hga⟩ : ∃ q, (emitN r1 (fun i => ⟨1, bitv nn i, 0⟩) gk 1).1 = q := ⟨_, rfl⟩
    obtain ⟨va, hva⟩ : ∃ q, (emitN r1 (fun i => ⟨1, bitv nn i, 0⟩) gk 1).2 = q := ⟨_, rfl⟩
    have hrest := HREST.out
    rw [hga, hva] at hrest
    replace HREST := Aside0.mk hrest
    have HGA := Aside0.mk hga
    have HVA := Aside0.mk hva
    have hG8 : Aside0 (G < w8.heap.size) := ⟨by omega⟩
    have tok1 : True := trivial
    clear hrest hga hva
    go_wp2_with (first | (go_at_call 75; have _t := tok1; rw [← HW8.out]; refine calls_of_args (args' := #[.pointer (some ⟨G, 0, none⟩), .int .i64 ((1 : Nat) : Int), .int .u64 nn]) rfl ?_; refine (impl_Circuit_putBits.calls G w.heap.size r1 (.slice none 0 0) gk nn 1 w8 L8.out.size B8.out hi0 (by omega) (by omega) (by omega) hn0 hn1).mono ?_; rintro e w9 ⟨v9, rfl, hbd, hv, hf⟩; rw [HGA.out] at hbd; rw [HVA.out] at hv; obtain ⟨A9, c9, rfl⟩ := Kd.R_slice hv; have B9 := Aside0.mk hbd; have V9 := Aside0.mk (Fr.R hf V8.out (by decide) (fun _ hk => hk)); have K9 := Aside0.mk (blk_fr K8.out hf hKneG (by decide)); have hle9 := L8.out.size; have L9 := Aside0.mk (L8.out.trans (hf.below hGw (Nat.le_refl _) hle9)); have hG9 : Aside0 (G < w9.heap.size) := ⟨Nat.lt_of_lt_of_le hG8.out hf.size⟩; have RV9 := Aside0.mk (Kd.R_lower hv hle9); clear tok1 hbd hv hf) | ((with_reducible refine gate_builtin (b := .append) (xs := #[.tmp 81, .tmp 85]) rfl ?_); at_builtin; refine Kd.R_append (Kd.slice 3 (Kd.int .i64)) (w0 := w9) w.heap.size rfl (.tmp 81) (.tmp 85) 86 25 (.slice none 0 0) 24 rfl Try.underlying86 info_ints rfl (by decide) (by omega) (.slice A8 stk.length c8) stk va [.slice A9 va.length c9] (fun k => k ≠ G) (fun k => k ≠ G ∧ some k ≠ (.slice A8 stk.length c8 : Value).ownBlock) (by first | rfl | (go_simp; done) | (go_simp; rfl)) (by first | (go_simp; done) | (go_simp; rfl)) ?aP (fun _ hk => hk) ?aF ?aO ?aB ?aS ?aL ?_; (case aP => exact ⟨_, rfl, Kd.R_apart' RV9.out (Kd.R_typed V9.out) (by decide)⟩); (case aF => intro k hk; have hsz_ := hG9.out; omega); (case aO => exact V9.out); (case aB => exact Below.refl _ _); (case aS => exact L9.out.size); (case aL => omega); intro v30 w30 hv _ hg_ _; have V30 := Aside0.mk hv; have B30 := Aside0.mk (Bd.grown B9.out hg_ (Kd.R_typed V9.out) (by decide) (by decide)); have K30 := Aside0.mk (blk_typed K9.out hg_ (Kd.R_typed V9.out) (by decide)); have L30 := Aside0.mk (L9.out.grown hg_ L9.out.size (fun k e_ => own_ge V9.out k e_)); clear hv hg_))
    go_roundg (l2.length - (kk + 1))
    case measure => omega
    case rel => exact ⟨kk + 1, _, _, by omega, by omega, by go_num, HREST, B30, V30, K30, L30⟩
   ·have hl8 : (r ++ [a]).length = r.length + 1 := by simp
    obtain ⟨g8, cp8, e, _, _, _⟩ := Kd.R_form HV.out (by omega)
    cases e
    rw [hl8] at HV
    have hl8z : ((r ++ [a]).length : Int) = (r.length : Int) + 1 := by omega
    have hrl : r.length ≤ 1000 := by omega
    obtain ⟨ga, hga⟩ : ∃ q, (emitN r1 (fun i => ⟨2, rd a i, 0⟩) gk a.length).1 = q := ⟨_, rfl⟩
    obtain ⟨va, hva⟩ : ∃ q, (emitN r1 (fun i => ⟨2, rd a i, 0⟩) gk a.length).2 = q := ⟨_, rfl⟩
    have hrest := HREST.out
    rw [hga, hva] at hrest
    replace HREST := Aside0.mk hrest
    have HGA := Aside0.mk hga
    have HVA := Aside0.mk hva
    have tok1 : True := trivial
    clear hrest hga hva
    rcases hop with rfl | rfl
    ·obtain ⟨w8, hw8⟩ : ∃ q, q = wr.alloc (.cells #[.int .i64 (13), .int .u64 nn] 63) := ⟨_, rfl⟩
     have B8 : Aside0 (Bd 27 G w.heap.size r1 (.slice none 0 0) w8 gk) := ⟨by rw [hw8]; exact HB.out.alloc _⟩
     have V8 := Aside0.mk (Kd.R_alloc HV.out (.cells #[.int .i64 (13), .int .u64 nn] 63))
     have K8 := Aside0.mk (blk_alloc HK.out (.cells #[.int .i64 (13), .int .u64 nn] 63))
     have L8 := Aside0.mk (below_alloc HL.out (.cells #[.int .i64 (13), .int .u64 nn] 63))
     have HW8 := Aside0.mk hw8
     rw [← hw8] at V8 K8 L8
     have hsz8 : w8.heap.size = wr.heap.size + 1 := by rw [hw8]; simp
     have hG8 : Aside0 (G < w8.heap.size) := ⟨by omega⟩
     obtain ⟨A0, c0, hcl0, hcc0, RA8⟩ := R_rowLast V8.out
     have RA := Aside0.mk RA8
     have hclr : (wr.alloc (.cells #[.int .i64 13, .int .u64 nn] 63)).cell? ⟨g8, r.length, none⟩ = some (.slice A0 a.length c0) := by rw [← HW8.out]; exact hcl0
     clear RA8 hcl0 hl8 hw8
     go_wp2_with (first | (go_at_call 76; have _t := tok1; rw [← HW8.out]; refine (impl_Circuit_putNots.calls G w.heap.size r1 (.slice none 0 0) gk A0 c0 a w8 L8.out.size B8.out (Fr.C_own RA.out (by decide) (fun _ hk => hk)) hi0 (by omega) (by omega) (by omega)).mono ?_; rintro e w9 ⟨v9, rfl, hbd, hv, hf⟩; rw [HGA.out] at hbd; rw [HVA.out] at hv; obtain ⟨A9, c9, rfl⟩ := Kd.R_slice hv; have B9 := Aside0.mk hbd; have V9 := Aside0.mk (Fr.R hf V8.out (by decide) (fun _ hk => hk)); have K9 := Aside0.mk (blk_fr K8.out hf hKneG (by decide)); have hle9 := L8.out.size; have L9 := Aside0.mk (L8.out.trans (hf.below hGw (Nat.le_refl _) hle9)); have hG9 : Aside0 (G < w9.heap.size) := ⟨Nat.lt_of_lt_of_le hG8.out hf.size⟩; have RV9 := Aside0.mk (Kd.R_lower hv hle9); obtain ⟨⟨Aq, mq, cq, hcq⟩, hfq⟩ := R_placeL V9.out r.length (by omega); clear tok1 hbd hv hf) | ((with_reducible refine gate_store (t := 25) (p := 97) rfl ?_); refine store_event (t := 25) (p := 97) (v := .tmp 96) (w1 := w9.setCell ⟨g8, r.length, none⟩ (.slice A9 va.length c9)) ?hg ?ho ?hn ?hr ?_; (case ho => rfl); (case hg => rfl); (case hn => rfl); (case hr => first | (go_simp; done) | (go_simp; rfl)); intro w30 hw; obtain ⟨hR30, hg30⟩ := R_setL V9.out r.length (by omega) (Kd.R_apart' RV9.out (Kd.R_typed V9.out) (by decide)) (fun k hk => ⟨hk.1, fun e_ => hk.2 (by rw [e_]; rfl)⟩); rw [← hw] at hR30 hg30; rw [List.set_append_right _ _ (Nat.le_refl _), Nat.sub_self, List.set_cons_zero] at hR30; have V30 := Aside0.mk hR30; have B30 := Aside0.mk (Bd.grown B9.out hg30 (fun k e_ => Kd.R_typed V9.out k (by injection e_ with e_; rw [← e_]; rfl)) (by decide) (by decide)); have K30 := Aside0.mk (blk_typed K9.out hg30 (fun k e_ => Kd.R_typed V9.out k (by injection e_ with e_; rw [← e_]; rfl)) (by decide)); have L30 := Aside0.mk (L9.out.grown hg30 L9.out.size (fun k e_ => own_ge V9.out k (by injection e_ with e_; rw [← e_]; rfl))); clear hw hR30 hg30))
     go_roundg (l2.length - (kk + 1))
     case measure => omega
     case rel => exact ⟨kk + 1, _, _, by omega, by omega, by go_num, HREST, B30, V30, K30, L30⟩
    ·obtain ⟨w8, hw8⟩ : ∃ q, q = wr.alloc (.cells #[.int .i64 (19), .int .u64 nn] 63) := ⟨_, rfl⟩
     have B8 : Aside0 (Bd 27 G w.heap.size r1 (.slice none 0 0) w8 gk) := ⟨by rw [hw8]; exact HB.out.alloc _⟩
     have V8 := Aside0.mk (Kd.R_alloc HV.out (.cells #[.int .i64 (19), .int .u64 nn] 63))
     have K8 := Aside0.mk (blk_alloc HK.out (.cells #[.int .i64 (19), .int .u64 nn] 63))
     have L8 := Aside0.mk (below_alloc HL.out (.cells #[.int .i64 (19), .int .u64 nn] 63))
     have HW8 := Aside0.mk hw8
     rw [← hw8] at V8 K8 L8
     have hsz8 : w8.heap.size = wr.heap.size + 1 := by rw [hw8]; simp
     have hG8 : Aside0 (G < w8.heap.size) := ⟨by omega⟩
     obtain ⟨A0, c0, hcl0, hcc0, RA8⟩ := R_rowLast V8.out
     have RA := Aside0.mk RA8
     have hclr : (wr.alloc (.cells #[.int .i64 19, .int .u64 nn] 63)).cell? ⟨g8, r.length, none⟩ = some (.slice A0 a.length c0) := by rw [← HW8.out]; exact hcl0
     clear RA8 hcl0 hl8 hw8
     go_wp2_with (first | (go_at_call 76; have _t := tok1; rw [← HW8.out]; refine (impl_Circuit_putNots.calls G w.heap.size r1 (.slice none 0 0) gk A0 c0 a w8 L8.out.size B8.out (Fr.C_own RA.out (by decide) (fun _ hk => hk)) hi0 (by omega) (by omega) (by omega)).mono ?_; rintro e w9 ⟨v9, rfl, hbd, hv, hf⟩; rw [HGA.out] at hbd; rw [HVA.out] at hv; obtain ⟨A9, c9, rfl⟩ := Kd.R_slice hv; have B9 := Aside0.mk hbd; have V9 := Aside0.mk (Fr.R hf V8.out (by decide) (fun _ hk => hk)); have K9 := Aside0.mk (blk_fr K8.out hf hKneG (by decide)); have hle9 := L8.out.size; have L9 := Aside0.mk (L8.out.trans (hf.below hGw (Nat.le_refl _) hle9)); have hG9 : Aside0 (G < w9.heap.size) := ⟨Nat.lt_of_lt_of_le hG8.out hf.size⟩; have RV9 := Aside0.mk (Kd.R_lower hv hle9); obtain ⟨⟨Aq, mq, cq, hcq⟩, hfq⟩ := R_placeL V9.out r.length (by omega); clear tok1 hbd hv hf) | ((with_reducible refine gate_store (t := 25) (p := 97) rfl ?_); refine store_event (t := 25) (p := 97) (v := .tmp 96) (w1 := w9.setCell ⟨g8, r.length, none⟩ (.slice A9 va.length c9)) ?hg ?ho ?hn ?hr ?_; (case ho => rfl); (case hg => rfl); (case hn => rfl); (case hr => first | (go_simp; done) | (go_simp; rfl)); intro w30 hw; obtain ⟨hR30, hg30⟩ := R_setL V9.out r.length (by omega) (Kd.R_apart' RV9.out (Kd.R_typed V9.out) (by decide)) (fun k hk => ⟨hk.1, fun e_ => hk.2 (by rw [e_]; rfl)⟩); rw [← hw] at hR30 hg30; rw [List.set_append_right _ _ (Nat.le_refl _), Nat.sub_self, List.set_cons_zero] at hR30; have V30 := Aside0.mk hR30; have B30 := Aside0.mk (Bd.grown B9.out hg30 (fun k e_ => Kd.R_typed V9.out k (by injection e_ with e_; rw [← e_]; rfl)) (by decide) (by decide)); have K30 := Aside0.mk (blk_typed K9.out hg30 (fun k e_ => Kd.R_typed V9.out k (by injection e_ with e_; rw [← e_]; rfl)) (by decide)); have L30 := Aside0.mk (L9.out.grown hg30 L9.out.size (fun k e_ => own_ge V9.out k (by injection e_ with e_; rw [← e_]; rfl))); clear hw hR30 hg30))
     go_roundg (l2.length - (kk + 1))
     case measure => omega
     case rel => exact ⟨kk + 1, _, _, by omega, by omega, by go_num, HREST, B30, V30, K30, L30⟩
   ·have hl8 : (r ++ [a, b]).length = r.length + 2 := by simp
    obtain ⟨g8, cp8, e, _, _, _⟩ := Kd.R_form HV.out (by omega)
    cases e
    rw [hl8] at HV ⊢
    have hcap : r.length + 2 ≤ c8 := (Kd.R_reads' HV.out).2.1
    have hrl : r.length ≤ 1000 := by omega
    obtain ⟨hn1, hn2, hn13, hn19, hn20⟩ := twoOp_ne hop
    have q1 : (op == 1) = false := beq_eq_false_iff_ne.mpr hn1
    have q2 : (op == 2) = false := beq_eq_false_iff_ne.mpr hn2
    have q13 : (op == 13) = false := beq_eq_false_iff_ne.mpr hn13
    have q19 : (op == 19) = false := beq_eq_false_iff_ne.mpr hn19
    have q20 : (op == 20) = false := beq_eq_false_iff_ne.mpr hn20
    have d1 : decide (op = 1) = false := decide_eq_false hn1
    have d2 : decide (op = 2) = false := decide_eq_false hn2
    have d13 : decide (op = 13) = false := decide_eq_false hn13
    have d19 : decide (op = 19) = false := decide_eq_false hn19
    have d20 : decide (op = 20) = false := decide_eq_false hn20
    have HOP := Aside0.mk hop
    clear hop
    obtain ⟨ga, hga⟩ : ∃ q, (twoN r1 op a b gk).1 = q := ⟨_, rfl⟩
    obtain ⟨va, hva⟩ : ∃ q, (twoN r1 op a b gk).2 = q := ⟨_, rfl⟩
    have hrest := HREST.out
    rw [hga, hva] at hrest
    replace HREST := Aside0.mk hrest
    have HGA := Aside0.mk hga
    have HVA := Aside0.mk hva
    have tok1 : True := trivial
    clear hrest hga hva
    obtain ⟨w8, hw8⟩ : ∃ q, q = wr.alloc (.cells #[.int .i64 (op), .int .u64 nn] 63) := ⟨_, rfl⟩
    have B8 : Aside0 (Bd 27 G w.heap.size r1 (.slice none 0 0) w8 gk) := ⟨by rw [hw8]; exact HB.out.alloc _⟩
    have V8 := Aside0.mk (Kd.R_alloc HV.out (.cells #[.int .i64 (op), .int .u64 nn] 63))
    have K8 := Aside0.mk (blk_alloc HK.out (.cells #[.int .i64 (op), .int .u64 nn] 63))
    have L8 := Aside0.mk (below_alloc HL.out (.cells #[.int .i64 (op), .int .u64 nn] 63))
    have HW8 := Aside0.mk hw8
    rw [← hw8] at V8 K8 L8
    have hsz8 : w8.heap.size = wr.heap.size + 1 := by rw [hw8]; simp
    have hG8 : Aside0 (G < w8.heap.size) := ⟨by omega⟩
    obtain ⟨A0, c0, A1, c1, hcl0, hcc0, RA8, hcl1, hcc1, RB8⟩ := R_rowLast2 V8.out
    have RA := Aside0.mk RA8
    have RB := Aside0.mk RB8
    have hop8 : w8.cell? ⟨wr.heap.size, 0, none⟩ = some (.int .i64 op) := by rw [hw8]; simp
    have HBL := Aside0.mk hbl
    have HCL0 := Aside0.mk hcl0
    have HCL1 := Aside0.mk hcl1
    have HOP8 := Aside0.mk hop8
    obtain ⟨m, hm⟩ : ∃ m, r.length = m := ⟨_, rfl⟩
    rw [hm] at V8 HCL0 HCL1 hcap hrl ⊢
    have HM := Aside0.mk hm
    have hz1 : (m : Int) + 2 - 1 = (m : Int) + 1 := by omega
    have hz2 : (m : Int) + 1 - 1 = (m : Int) := by omega
    clear RA8 RB8 hl8 hw8 hbl hcl0 hcl1 hop8 hm HV
    go_wp2
    rw [← HW8.out]
    have hcl0 := HCL0.out
    have hcl1 := HCL1.out
    have hop8 := HOP8.out
    have hb0 : (0 : Int) ≤ (m : Int) := Int.natCast_nonneg _
    have hb1 : (m : Int) < ((m + 2 : Nat) : Int) := by omega
    have hb2 : (0 : Int) ≤ (m : Int) + 1 := by omega
    have hb3 : (m : Int) + 1 < ((m + 2 : Nat) : Int) := by omega
    have hb4 : (m : Int) ≤ (c8 : Int) := by omega
    have hb5 : (m : Int) < (m : Int) + 2 := by omega
    have hb6 : (m : Int) + 1 < (m : Int) + 2 := by omega
    have hz3 : IntKind.i64.wrap (m : Int) = (m : Int) := IntWalk.i64_in _ (by omega)
    have hz4 : ((m : Int) + 1).toNat = m + 1 := by omega
    have hsz8' := L8.out.size
    have B8d := Aside0.mk B8.out.drew
    have V8d := Aside0.mk (Kd.R_drew V8.out)
    have K8d := Aside0.mk (blk_drew K8.out)
    have L8d := Aside0.mk (below_drew L8.out)
    have RAd := Aside0.mk (Kd.R_drew RA.out)
    have RBd := Aside0.mk (Kd.R_drew RB.out)
    have hG8d : Aside0 (G < w8.drew.heap.size) := ⟨hG8.out⟩
    obtain ⟨i0_, hi0_, _, _, _⟩ := info_parts info_ints
    have hcut := cut_to (P := Try.prog) 86 25 .i64 Try.underlying86 hi0_ (some ⟨g8, 0, none⟩) (m + 2) c8 (m : Int) hb0 (by omega) hcap
    rw [Int.toNat_natCast] at hcut
    refine start_ (n := 19) (S := fun w' => w'.cell? ⟨wr.heap.size, 0, none⟩ = some (.int .i64 op) ∧ w'.cell? ⟨g8, m, none⟩ = some (.slice A0 a.length c0) ∧ w'.cell? ⟨g8, m + 1, none⟩ = some (.slice A1 b.length c1)) (ds := [15, 16, 17]) #[false, false, false, false, false, false, false, false, false, false, false, false, false, false, false, false, false, false, false] (by kernel_rfl) rfl rfl ⟨hop8, hcl0, hcl1⟩ (fun hHeld => ?_)
    generalize hWd : w8.drew = wd8 at B8d V8d K8d L8d RAd RBd hG8d hHeld ⊢
    clear hop8 hcl0 hcl1
    refine pure_ (i := 0) (N := some 30) (v := ?_) (a' := ?_) #[true, false, false, false, false, false, false, false, false, false, false, false, false, false, false, false, false, false, false] rfl rfl (by kernel_rfl) (fun _ _ _ h => h) (Or.inl ⟨by rfl, ?_⟩) ?_ ?_
    rotate_left
    ·intro w'
     go_simp
     with_reducible rfl
    rotate_left
    ·simp only [Act.put, List.setIfInBounds_toArray, List.set_cons_zero, List.set_cons_succ]
     rfl
    refine pure_ (i := 1) (N := some 31) (v := ?_) (a' := ?_) #[true, true, false, false, false, false, false, false, false, false, false, false, false, false, false, false, false, false, false] rfl rfl (by kernel_rfl) (fun _ _ _ h => h) (Or.inl ⟨by rfl, ?_⟩) ?_ ?_
    rotate_left
    ·intro w'
     go_simp
     with_reducible rfl
    rotate_left
    ·simp only [Act.put, List.setIfInBounds_toArray, List.set_cons_zero, List.set_cons_succ]
     rfl
    refine pure_ (i := 2) (N := some 32) (v := ?_) (a' := ?_) #[true, true, true, false, false, false, false, false, false, false, false, false, false, false, false, false, false, false, false] rfl rfl (by kernel_rfl) (fun _ _ _ h => h) (Or.inl ⟨by rfl, ?_⟩) ?_ ?_
    rotate_left
    ·intro w'
     go_simp
     with_reducible rfl
    rotate_left
    ·simp only [Act.put, List.setIfInBounds_toArray, List.set_cons_zero, List.set_cons_succ]
     rfl
    refine pure_ (i := 3) (N := some 33) (v := ?_) (a' := ?_) #[true, true, true, true, false, false, false, false, false, false, false, false, false, false, false, false, false, false, false] rfl rfl (by kernel_rfl) (fun _ _ _ h => h) (Or.inl ⟨by rfl, ?_⟩) ?_ ?_
    rotate_left
    ·intro w'
     go_simp
     with_reducible rfl
    rotate_left
    ·simp only [Act.put, List.setIfInBounds_toArray, List.set_cons_zero, List.set_cons_succ]
     rfl
    refine pure_ (i := 4) (N := some 34) (v := ?_) (a' := ?_) #[true, true, true, true, true, false, false, false, false, false, false, false, false, false, false, false, false, false, false] rfl rfl (by kernel_rfl) (fun _ _ _ h => h) (Or.inl ⟨by rfl, ?_⟩) ?_ ?_
    rotate_left
    ·intro w'
     go_simp
     with_reducible rfl
    rotate_left
    ·simp only [Act.put, List.setIfInBounds_toArray, List.set_cons_zero, List.set_cons_succ]
     rfl
    refine pure_ (i := 6) (N := some 36) (v := ?_) (a' := ?_) #[true, true, true, true, true, false, true, false, false, false, false, false, false, false, false, false, false, false, false] rfl rfl (by kernel_rfl) (fun _ _ _ h => h) (Or.inl ⟨by rfl, ?_⟩) ?_ ?_
    rotate_left
    ·intro w'
     go_simp
     with_reducible rfl
    rotate_left
    ·simp only [Act.put, List.setIfInBounds_toArray, List.set_cons_zero, List.set_cons_succ]
     rfl
    refine pure_ (i := 7) (N := some 37) (v := ?_) (a' := ?_) #[true, true, true, true, true, false, true, true, false, false, false, false, false, false, false, false, false, false, false] rfl rfl (by kernel_rfl) (fun _ _ _ h => h) (Or.inl ⟨by rfl, ?_⟩) ?_ ?_
    rotate_left
    ·intro w'
     go_simp
     with_reducible rfl
    rotate_left
    ·simp only [Act.put, List.setIfInBounds_toArray, List.set_cons_zero, List.set_cons_succ]
     rfl
    refine pure_ (i := 8) (N := some 38) (v := ?_) (a' := ?_) #[true, true, true, true, true, false, true, true, true, false, false, false, false, false, false, false, false, false, false] rfl rfl (by kernel_rfl) (fun _ _ _ h => h) (Or.inl ⟨by rfl, ?_⟩) ?_ ?_
    rotate_left
    ·intro w'
     go_simp
     with_reducible rfl
    rotate_left
    ·simp only [Act.put, List.setIfInBounds_toArray, List.set_cons_zero, List.set_cons_succ]
     rfl
    refine pure_ (i := 9) (N := some 39) (v := ?_) (a' := ?_) #[true, true, true, true, true, false, true, true, true, true, false, false, false, false, false, false, false, false, false] rfl rfl (by kernel_rfl) (fun _ _ _ h => h) (Or.inl ⟨by rfl, ?_⟩) ?_ ?_
    rotate_left
    ·intro w'
     go_simp
     with_reducible rfl
    rotate_left
    ·simp only [Act.put, List.setIfInBounds_toArray, List.set_cons_zero, List.set_cons_succ]
     rfl
    refine pure_ (i := 11) (N := some 41) (v := ?_) (a' := ?_) #[true, true, true, true, true, false, true, true, true, true, false, true, false, false, false, false, false, false, false] rfl rfl (by kernel_rfl) (fun _ _ _ h => h) (Or.inl ⟨by rfl, ?_⟩) ?_ ?_
    rotate_left
    ·intro w'
     go_simp
     with_reducible rfl
    rotate_left
    ·simp only [Act.put, List.setIfInBounds_toArray, List.set_cons_zero, List.set_cons_succ]
     rfl
    refine pure_ (i := 12) (N := some 42) (v := ?_) (a' := ?_) #[true, true, true, true, true, false, true, true, true, true, false, true, true, false, false, false, false, false, false] rfl rfl (by kernel_rfl) (fun _ _ _ h => h) (Or.inl ⟨by rfl, ?_⟩) ?_ ?_
    rotate_left
    ·intro w'
     go_simp
     with_reducible rfl
    rotate_left
    ·simp only [Act.put, List.setIfInBounds_toArray, List.set_cons_zero, List.set_cons_succ]
     rfl
    refine pure_ (i := 13) (N := some 43) (v := ?_) (a' := ?_) #[true, true, true, true, true, false, true, true, true, true, false, true, true, true, false, false, false, false, false] rfl rfl (by kernel_rfl) (fun _ _ _ h => h) (Or.inl ⟨by rfl, ?_⟩) ?_ ?_
    rotate_left
    ·intro w'
     go_simp
     with_reducible rfl
    rotate_left
    ·simp only [Act.put, List.setIfInBounds_toArray, List.set_cons_zero, List.set_cons_succ]
     rfl
    refine take_ (i := 5) (N := some 35) (v := ?_) (a' := ?_) #[true, true, true, true, true, true, true, true, true, true, false, true, true, true, false, false, false, false, false] rfl rfl (by kernel_rfl) (fun _ _ _ h => h) (Or.inl ⟨by rfl, ?_⟩) hHeld ?_ ?_
    rotate_left
    ·rintro w' ⟨s0, s1, s2⟩
     go_simp
     with_reducible rfl
    rotate_left
    ·simp only [Act.put, List.setIfInBounds_toArray, List.set_cons_zero, List.set_cons_succ]
     rfl
    refine take_ (i := 10) (N := some 40) (v := ?_) (a' := ?_) #[true, true, true, true, true, true, true, true, true, true, true, true, true, true, false, false, false, false, false] rfl rfl (by kernel_rfl) (fun _ _ _ h => h) (Or.inl ⟨by rfl, ?_⟩) hHeld ?_ ?_
    rotate_left
    ·rintro w' ⟨s0, s1, s2⟩
     go_simp
     with_reducible rfl
    rotate_left
    ·simp only [Act.put, List.setIfInBounds_toArray, List.set_cons_zero, List.set_cons_succ]
     rfl
    refine take_ (i := 14) (N := some 44) (v := ?_) (a' := ?_) #[true, true, true, true, true, true, true, true, true, true, true, true, true, true, true, false, false, false, false] rfl rfl (by kernel_rfl) (fun _ _ _ h => h) (Or.inl ⟨by rfl, ?_⟩) hHeld ?_ ?_
    rotate_left
    ·rintro w' ⟨s0, s1, s2⟩
     go_simp
     with_reducible rfl
    rotate_left
    ·simp only [Act.put, List.setIfInBounds_toArray, List.set_cons_zero, List.set_cons_succ]
     rfl
    refine last_ (i := 15) (N := some 45) #[true, true, true, true, true, true, true, true, true, true, true, true, true, true, true, true, false, false, false] rfl rfl (by kernel_rfl) (by decide) (fun K hK => ?_)
    refine goes_ Try.func77 (by kernel_rfl) rfl #[.pointer (some ⟨G, 0, none⟩), .int .i64 op, .slice A0 a.length c0, .slice A1 b.length c1] (by rfl) rfl rfl (by (try simp only [List.map_toArray, List.map_cons, List.map_nil]); first | done | rfl) ?_
    refine (impl_Circuit_putTwo.calls G w.heap.size r1 (.slice none 0 0) gk op A0 A1 c0 c1 a b wd8 HOP.out L8d.out.size B8d.out (Fr.C_own RAd.out (by decide) (fun _ hk => hk)) (Fr.C_own RBd.out (by decide) (fun _ hk => hk)) hi0 (by omega) (by omega) (by omega) (by omega) hal1 hcc0 hcc1 HBL.out).mono ?_
    rintro e w9 ⟨v9, rfl, hbd, hv, hf⟩
    rw [HGA.out] at hbd
    rw [HVA.out] at hv
    obtain ⟨A9, c9, rfl⟩ := Kd.R_slice hv
    have B9 := Aside0.mk hbd
    have hV9 := Fr.R hf V8d.out (by decide) (fun _ hk => hk)
    have V9 := Aside0.mk (show Kd.R (Kd.slice 3 (Kd.int .i64)) 25 w9 w.heap.size (fun k => k ≠ G) (.slice (some ⟨g8, 0, none⟩) m c8) r from by have h_ := Kd.R_take hV9 (m := m) (by rw [← HM.out]; simp); rwa [← HM.out, List.take_left, HM.out] at h_)
    have K9 := Aside0.mk (blk_fr K8d.out hf hKneG (by decide))
    have hle9 := L8d.out.size
    have L9 := Aside0.mk (L8d.out.trans (hf.below hGw (Nat.le_refl _) hle9))
    have hG9 : Aside0 (G < w9.heap.size) := ⟨Nat.lt_of_lt_of_le hG8d.out hf.size⟩
    have RV9 := Aside0.mk (Kd.R_lower hv hle9)
    clear hbd hv hf hV9
    refine ⟨_, rfl, ?_⟩
    refine hK.out _ _ ?_
    clear hK K
    refine norm_ (a' := ?_) ?_ ?_
    rotate_left
    ·show Act.put _ (some 45) _ = _
     simp only [Act.put, List.setIfInBounds_toArray, List.set_cons_zero, List.set_cons_succ]
     rfl
    refine last_ (i := 16) (N := some 46) #[true, true, true, true, true, true, true, true, true, true, true, true, true, true, true, true, true, false, false] rfl rfl (by kernel_rfl) (by decide) (fun K hK => ?_)
    refine value_ (w1 := ?_) (v := ?_) (by rfl) rfl ?_ ?_
    rotate_left 2
    ·go_simp
     constructor
     ·rfl
     ·rfl
    refine hK.out _ _ ?_
    clear hK K
    refine norm_ (a' := ?_) ?_ ?_
    rotate_left
    ·show Act.put _ (some 46) _ = _
     simp only [Act.put, List.setIfInBounds_toArray, List.set_cons_zero, List.set_cons_succ]
     rfl
    refine last_ (i := 17) (N := some 47) #[true, true, true, true, true, true, true, true, true, true, true, true, true, true, true, true, true, true, false] rfl rfl (by kernel_rfl) (by decide) (fun K hK => ?_)
    (refine Kd.R_append_step (Kd.slice 3 (Kd.int .i64)) (w0 := w9) w.heap.size (by rfl) (.tmp 33) (.tmp 46) 86 25 (.slice none 0 0) 24 rfl Try.underlying86 info_ints rfl (by decide) (by omega) (.slice (some ⟨g8, 0, none⟩) m c8) r va [.slice A9 va.length c9] (fun k => k ≠ G) (fun k => k ≠ G ∧ some k ≠ (.slice (some ⟨g8, 0, none⟩) m c8 : Value).ownBlock) (by first | rfl | (go_simp; done) | (go_simp; rfl)) (by first | (go_simp; done) | (go_simp; rfl)) ?aP (fun _ hk => hk) ?aF ?aO ?aB ?aS ?aL ?_; (case aP => exact ⟨_, rfl, Kd.R_apart' RV9.out (Kd.R_typed V9.out) (by decide)⟩); (case aF => intro k hk; have hsz_ := hG9.out; omega); (case aO => exact V9.out); (case aB => exact Below.refl _ _); (case aS => exact L9.out.size); (case aL => (have := HM.out; omega)); intro v30 w30 hv _ hg_ _; have V30 := Aside0.mk hv; have B30 := Aside0.mk (Bd.grown B9.out hg_ (Kd.R_typed V9.out) (by decide) (by decide)); have K30 := Aside0.mk (blk_typed K9.out hg_ (Kd.R_typed V9.out) (by decide)); have L30 := Aside0.mk (L9.out.grown hg_ L9.out.size (fun k e_ => own_ge V9.out k e_)); clear hv hg_)
    refine hK.out _ _ ?_
    clear hK K
    refine norm_ (a' := ?_) ?_ ?_
    rotate_left
    ·show Act.put _ (some 47) _ = _
     simp only [Act.put, List.setIfInBounds_toArray, List.set_cons_zero, List.set_cons_succ]
     rfl
    refine pure_ (i := 18) (N := some 8) (v := ?_) (a' := ?_) #[true, true, true, true, true, true, true, true, true, true, true, true, true, true, true, true, true, true, true] rfl rfl (by kernel_rfl) (fun _ _ _ h => h) (Or.inl ⟨by rfl, ?_⟩) ?_ ?_
    rotate_left
    ·intro w'
     go_simp
     with_reducible rfl
    rotate_left
    ·simp only [Act.put, List.setIfInBounds_toArray, List.set_cons_zero, List.set_cons_succ]
     rfl
    refine done_ (by kernel_rfl) ?_
    try go_wp2
    go_roundg (l2.length - (kk + 1))
    case measure => omega
    case rel => exact ⟨kk + 1, _, _, by omega, by omega, by go_num, HREST, B30, V30, K30, L30⟩
  ·have hltz : ¬ (kk : Int) < (l2.length : Int) := by omega
   obtain rfl : kk = l2.length := by omega
   have hfin := HGF.out
   rw [List.drop_length] at hfin
   obtain ⟨rfl, rfl⟩ : gk = r2 ∧ stk = r3 :: rest := by injection hfin with hfin; injection hfin with h1 h2; exact ⟨h1, h2⟩
   obtain ⟨g8, c8, rfl, _, _, _⟩ := Kd.R_form HV.out (by simp)
   obtain ⟨a8, A0, c0, e, hcl0, hcc0, hR0⟩ := R_rowAt HV.out 0 (by simp)
   cases e
   rw [add_plain] at hcl0
   have h00 : (r3 :: rest)[0]'(by simp) = r3 := rfl
   rw [h00] at hcl0 hcc0 hR0
   have hln : (r3 :: rest).length = rest.length + 1 := rfl
   rw [hln] at HV ⊢
   have OW := Aside0.mk (show slices_Clone_int.f r3 = some r3 from by have := HO.out; unfold slices_Clone_int.f; rw [Option.bind_some, if_pos (by simp; omega), List.nil_append])
   have R0 := Aside0.mk hR0
   have tokC : True := trivial
   clear hfin HGF hR0 h00 hln
   go_wp2_with (go_at_call 78; have _t := tokC; refine (slices_Clone_int.calls A0 c0 r3 r3 wr (Kd.R_reads' R0.out).2.2 hcc0 OW.out).mono ?_; rintro e w9 ⟨v9, rfl, hv, hb⟩; obtain ⟨A9, c9, rfl⟩ := Kd.R_slice hv; obtain ⟨gv, hG9, hR9⟩ := HB.out.below hb; obtain ⟨Ag, cg, rfl⟩ := Kd.R_slice hR9; have V9 := Aside0.mk (Kd.R_lower hv HL.out.size); have G9 := Aside0.mk hG9; have R9 := Aside0.mk hR9; have K9 := Aside0.mk (blk_below HK.out hb); have L9 := Aside0.mk (below_step HL.out hb); have hg0 : w9.cell? ⟨G, 0, none⟩ = some (.int .i64 r1) := (blk_cell hG9 0).trans rfl; have hg1 : w9.cell? ⟨G, 1, none⟩ = some (.slice Ag gk.length cg) := (blk_cell hG9 1).trans rfl; have hg2 : w9.cell? ⟨G, 2, none⟩ = some (.slice none 0 0) := (blk_cell hG9 2).trans rfl; have hgf := blk_frozen hG9 2; have hk0 : w9.cell? ⟨K, 0, none⟩ = some (.int .i64 0) := (blk_cell K9.out 0).trans rfl; have hk1 : w9.cell? ⟨K, 1, none⟩ = some (.slice none 0 0) := (blk_cell K9.out 1).trans rfl; have hk2 : w9.cell? ⟨K, 2, none⟩ = some (.slice none 0 0) := (blk_cell K9.out 2).trans rfl; have hkf0 := blk_frozen K9.out 0; have hkf1 := blk_frozen K9.out 1; have hkf2 := blk_frozen K9.out 2; clear tokC hv hb hG9 hR9)
   refine bodyPost_ret (v := .agg #[.int .i64 r1, .slice Ag gk.length cg, .slice A9 r3.length c9]) (by simp [results, Try.results41, go_sem, hk0, hk1, hk2]) rfl ⟨_, _, rfl, ?_, ?_, ?_⟩
   ·exact Kd.R_set (Kd.R_set (Kd.R_set (Kd.R_set R9.out G9.out (by decide) 2 _) (blk_far K9.out (p := ⟨G, 2, none⟩) hKneG _) (by decide) 0 _) (blk_put (blk_far K9.out (p := ⟨G, 2, none⟩) hKneG _) 0 _ rfl) (by decide) 1 _) (blk_put (blk_put (blk_far K9.out (p := ⟨G, 2, none⟩) hKneG _) 0 _ rfl) 1 _ rfl) (by decide) 2 _
   ·exact Kd.R_set (Kd.R_set (Kd.R_set (Kd.R_set V9.out G9.out (by decide) 2 _) (blk_far K9.out (p := ⟨G, 2, none⟩) hKneG _) (by decide) 0 _) (blk_put (blk_far K9.out (p := ⟨G, 2, none⟩) hKneG _) 0 _ rfl) (by decide) 1 _) (blk_put (blk_put (blk_far K9.out (p := ⟨G, 2, none⟩) hKneG _) 0 _ rfl) 1 _ rfl) (by decide) 2 _
   ·exact (((L9.out.setCell (p := ⟨G, 2, none⟩) hGw _).setCell (p := ⟨K, 0, none⟩) hszK _).setCell (p := ⟨K, 1, none⟩) hszK _).setCell (p := ⟨K, 2, none⟩) hszK _


-- HAND
/-! ### impl_areWiresBelow_any: the contract of function 71 at function 108 -/
/-- No wire below the bound. -/
def offWire (bound x : Int) : Bool := decide (x < 0) || decide (bound ≤ x)
/-- 'slices.ContainsFunc(list, func(w int) bool { return w < 0 || w >= bound })'. -/
def impl_areWiresBelow_any.f (l : List Int) (kind : Int) : Option (Bool) := some (l.any (offWire kind))
theorem impl_areWiresBelow_any.pred (x a1 : Int) (B : Nat) (W : World) (hc : W.cell? ⟨B, 0, none⟩ = some (.int .i64 a1)) :
  Calls Try.prog 108 #[.int .i64 x, .pointer (some ⟨B, 0, none⟩)] W fun e w' => e = .returned (.bool (offWire a1 x)) ∧ W = w' := by
 by_cases h0 : x < 0
 ·have h1 : decide (x < 0) = true := decide_eq_true h0
  have e : offWire a1 x = true := by unfold offWire; rw [h1]; rfl
  rw [e]
  clear e h0
  go_enter Try.func108, Try.ntmps108
  go_wp2
  go_ret
  exact ⟨rfl, rfl⟩
 ·have h1 : decide (x < 0) = false := decide_eq_false h0
  have e : offWire a1 x = decide (a1 ≤ x) := by unfold offWire; rw [h1]; rfl
  rw [e]
  clear e h0
  go_enter Try.func108, Try.ntmps108
  go_wp2
  go_ret
  exact ⟨rfl, rfl⟩
set_option maxHeartbeats 2000000 in
theorem impl_areWiresBelow_any.index (A0 : Option Addr) (c0 : Nat) (l0 : List Int) (B : Nat) (a1 : Int) (w : World) (hr0 : Kd.C (Kd.int .i64) w A0 l0.length l0) (hc0 : l0.length ≤ c0)
  (hx : w.cell? ⟨B, 0, none⟩ = some (.int .i64 a1)) :
  Calls Try.prog 99 #[.slice A0 l0.length c0, .func (.func 108) #[] #[.pointer (some ⟨B, 0, none⟩)]] w
   fun e w' => (∃ n : Int, e = .returned (.int .i64 n) ∧ decide (n ≥ 0) = l0.any (offWire a1)) ∧ Drawn0 w w' := by
 have hm := hr0.2.1
 have HR := Aside0.mk hr0
 clear hr0
 have hcall : ∀ (x : Int) (q : Nat), Calls Try.prog 108 #[.int .i64 x, .pointer (some ⟨B, 0, none⟩)] (w.drewN q) fun e w' => e = .returned (.bool (offWire a1 x)) ∧ w.drewN q = w' :=
  fun x q => impl_areWiresBelow_any.pred x a1 B _ hx
 clear hx
 go_enter Try.func99, Try.ntmps99
 go_wp2
 go_loopg [5, 8] l0.length (fun gg _ s8 wr => ∃ kk q : Nat, kk ≤ l0.length ∧ l0.length - kk ≤ gg ∧ s8 = .int .i64 kk ∧ wr = w.drewN q ∧ Aside0 ((l0.take kk).any (offWire a1) = false))
 case atStart => exact ⟨0, 0, Nat.zero_le _, by omega, rfl, rfl, ⟨rfl⟩⟩
 case round =>
  obtain ⟨kk, q, hkk, hg, rfl, rfl, HA⟩ := hrel
  by_cases hlt : kk < l0.length
  ·have hltz : (kk : Int) < (l0.length : Int) := by omega
   obtain ⟨ad, e, hcell⟩ := Kd.at_int HR.out (kk : Int) (by omega) hltz
   cases e
   have hy : ∃ y, rd l0 (kk : Int) = y := ⟨_, rfl⟩
   obtain ⟨y, hy⟩ := hy
   rw [hy] at hcell
   rw [Int.toNat_natCast] at hcell
   have HY := Aside0.mk hy
   clear hy
   have hone := hcall y
   cases hq : offWire a1 y with
   | true =>
    rw [hq] at hone
    go_wp2_with (go_at_call 108; refine (hone _).mono ?_; rintro e w' ⟨rfl, rfl⟩)
    go_ret
    exact ⟨⟨_, rfl, by have h1 := HY.out; simp only [rd, Int.toNat_natCast] at h1; rw [decide_eq_true (by omega)]; symm; rw [List.any_eq_true]; exact ⟨l0.getD kk 0, by rw [List.getD_eq_getElem?_getD, List.getElem?_eq_getElem hlt]; exact List.getElem_mem hlt, by rw [h1]; exact hq⟩⟩, by repeat (first | exact Drawn0.refl _ | apply Drawn0.step)⟩
   | false =>
    rw [hq] at hone
    go_wp2_with (go_at_call 108; refine (hone _).mono ?_; rintro e w' ⟨rfl, rfl⟩)
    go_roundg (l0.length - (kk + 1))
    case measure => omega
    case rel => exact ⟨kk + 1, _, by omega, by omega, by go_num, rfl, ⟨by have h1 := HY.out; simp only [rd, Int.toNat_natCast] at h1; rw [List.take_add_one, List.any_append, HA.out, List.getElem?_eq_getElem hlt]; rw [List.getD_eq_getElem?_getD, List.getElem?_eq_getElem hlt] at h1; simp only [Option.getD_some] at h1; rw [h1]; simp [hq]⟩⟩
  ·have hltz : ¬ (kk : Int) < (l0.length : Int) := by omega
   obtain rfl : kk = l0.length := by omega
   go_wp2
   go_ret
   exact ⟨⟨_, rfl, by have := HA.out; rw [List.take_length] at this; rw [this]; rfl⟩, by repeat (first | exact Drawn0.refl _ | apply Drawn0.step)⟩
theorem impl_areWiresBelow_any.calls (A0 : Option Addr) (c0 : Nat) (l0 : List Int) (B : Nat) (a1 : Int) (r : Bool) (w : World) (hr0 : Kd.C (Kd.int .i64) w A0 l0.length l0) (hc0 : l0.length ≤ c0)
  (hx : w.heap[B]? = some (.cells #[.int .i64 a1] 3 (0, 0))) (h : impl_areWiresBelow_any.f l0 a1 = some r) :
  Calls Try.prog 71 #[.slice A0 l0.length c0, .func (.func 108) #[] #[.pointer (some ⟨B, 0, none⟩)]] w
   fun e w' => e = .returned (.bool r) ∧ Drawn0 w w' := by
 obtain rfl := Option.some.inj h
 have hcell : w.cell? ⟨B, 0, none⟩ = some (.int .i64 a1) := (blk_cell hx 0).trans rfl
 have hI := impl_areWiresBelow_any.index A0 c0 l0 B a1 w hr0 hc0 hcell
 clear hr0 hx hcell h
 generalize hb : l0.any (offWire a1) = b at hI ⊢
 clear hb
 go_enter Try.func71, Try.ntmps71
 go_wp2_with (go_at_call 99; refine hI.mono ?_; rintro e w' ⟨⟨n, rfl, hn⟩, ⟨nd, rfl⟩⟩; have HN := Aside0.mk hn; clear hn)
 go_ret
 exact ⟨by have h1 := HN.out; simp only [ge_iff_le] at h1; first | rfl | (rw [h1]; rfl) | rw [h1], by repeat (first | exact Drawn0.refl _ | apply Drawn0.step)⟩


/-! ### impl_areWiresBelow: function 80 -/
def impl_areWiresBelow.f (l0 : List Int) (a1 : Int) : Option (Bool) := (impl_areWiresBelow_any.f l0 a1).bind fun t211 => (some (!t211))
set_option maxHeartbeats 8000000 in
set_option maxRecDepth 100000 in
theorem impl_areWiresBelow.calls (A0 : Option Addr) (c0 : Nat) (l0 : List Int) (a1 : Int) (r : Bool) (w : World) (hr0 : Kd.C (Kd.int .i64) w A0 l0.length l0) (hc0 : l0.length ≤ c0) (h : impl_areWiresBelow.f l0 a1 = some r) :
  Calls Try.prog 80 #[.slice A0 l0.length c0, .int .i64 a1] w fun e w' => e = .returned (.bool r) ∧ Below w.heap.size w w' := by
 have HR0 := Aside0.mk hr0
 have HC0 := Aside0.mk hc0
 clear hr0 hc0
 have HB := Aside0.mk (Below.refl w.heap.size w)
 have H : ((impl_areWiresBelow_any.f l0 a1).bind fun t211 => (some (!t211))) = some r := h
 clear h
 replace H := Option.bind_eq_some_iff.mp H
 obtain ⟨t211, A30, H⟩ := H
 replace H : (some (!t211)) = some r := H
 have A3 := Aside0.mk A30
 clear A30
 obtain rfl := Option.some.inj H
 go_enter Try.func80, Try.ntmps80
 go_wp2_with (first | ((with_reducible refine gate_dst (N := 3) rfl ?_); refine box_event ?hg (N := 3) ?hd (cs := #[.int .i64 a1]) (t := 3) ?hr ?_; (case hd => rfl); (case hg => rfl); (case hr => first | (go_simp; done) | (go_simp; rfl)); intro gb210 hg w4 hbox hb; have n0_ := Aside0.mk (below_step (qB) hb); have n1_ := Aside0.mk (hbox); have n2_ := Aside0.mk ((by rw [hg]; exact (below_size (qB)) : w.heap.size ≤ gb210)); have n3_ := Aside0.mk ((by rw [hg]; exact (below_size (qB)) : w.heap.size ≤ gb210)); clear HB; have HB := n0_; have BK210 := n1_; have GW210 := n2_; have GE210 := n3_; clear n0_ n1_ n2_ n3_; clear hb hbox hg; have hcz5_0 : w4.cell? ⟨gb210, 0, none⟩ = some (.int .i64 a1) := (blk_cell BK210.out 0).trans rfl; have hfz5_0 := blk_frozen BK210.out 0) | ((with_reducible refine gate_callee (f := 71) rfl ?_); refine goesL_ (some 7) rfl rfl Try.func71 (by kernel_rfl) rfl #[.slice A0 l0.length c0, .func (.func 108) #[] #[.pointer (some ⟨gb210, 0, none⟩)]] rfl qG ?_; (with_reducible refine (impl_areWiresBelow_any.calls _ _ l0 _ a1 t211 _ ?side1 ?side2 ?side3 A3.out).mono ?_); (case side1 => exact qC (Kd.C_below HR0.out HB.out)); (case side2 => exact HC0.out); (case side3 => exact by exact qK BK210.out); rintro e w' ⟨rfl, ⟨nd, rfl⟩⟩; refine ⟨_, rfl, ?_⟩))
 go_ret
 exact ⟨qE, qB⟩

/-! ### impl_Gate_uses: function 107 -/
def impl_Gate_uses.f (a0_0 : Int) (a0_1 : Int) (a0_2 : Int) : Option (List Int) := if a0_0 = 1 then (some ([] : List Int)) else (if a0_0 = 2 then (some (([a0_1] : List Int))) else (some (([a0_1, a0_2] : List Int))))
set_option maxHeartbeats 8000000 in
set_option maxRecDepth 100000 in
theorem impl_Gate_uses.calls (a0_0 : Int) (a0_1 : Int) (a0_2 : Int) (r : List Int) (w : World) (h : impl_Gate_uses.f a0_0 a0_1 a0_2 = some r) :
  Calls Try.prog 107 #[.agg #[.int .i64 a0_0, .int .i64 a0_1, .int .i64 a0_2]] w fun e w' => ∃ v0_ : Value, e = .returned (v0_) ∧ Kd.R (Kd.int .i64) 3 w' w.heap.size (fun _ => True) v0_ r ∧ Below w.heap.size w w' := by
 have hu93 := Try.underlying93
 have HB := Aside0.mk (Below.refl w.heap.size w)
 have H : (if a0_0 = 1 then (some ([] : List Int)) else (if a0_0 = 2 then (some (([a0_1] : List Int))) else (some (([a0_1, a0_2] : List Int))))) = some r := h
 clear h
 by_cases c2 : a0_0 = 1
 ·rw [if_pos c2] at H
  have c2b0 : (a0_0 == 1) = true := beq_iff_eq.mpr c2
  have c2b1 : (a0_0 != 1) = false := bne_eq_false_iff_eq.mpr c2
  clear c2
  obtain rfl := Option.some.inj H
  go_enter Try.func107, Try.ntmps107
  go_wp2_with (first | ((with_reducible refine gate_dst (N := 1) rfl ?_); refine box_event ?hg (N := 1) ?hd (cs := #[.int .i64 a0_0, .int .i64 a0_1, .int .i64 a0_2]) (t := 93) ?hr ?_; (case hd => rfl); (case hg => rfl); (case hr => first | (go_simp; done) | (go_simp; rfl)); intro gb212 hg w3 hbox hb; have n0_ := Aside0.mk (below_step (qB) hb); have n1_ := Aside0.mk (hbox); have n2_ := Aside0.mk ((by rw [hg]; exact (below_size (qB)) : w.heap.size ≤ gb212)); have n3_ := Aside0.mk ((by rw [hg]; exact (below_size (qB)) : w.heap.size ≤ gb212)); clear HB; have HB := n0_; have BK212 := n1_; have GW212 := n2_; have GE212 := n3_; clear n0_ n1_ n2_ n3_; clear hb hbox hg; have hcz4_0 : w3.cell? ⟨gb212, 0, none⟩ = some (.int .i64 a0_0) := (blk_cell BK212.out 0).trans rfl; have hcz4_1 : w3.cell? ⟨gb212, 1, none⟩ = some (.int .i64 a0_1) := (blk_cell BK212.out 1).trans rfl; have hcz4_2 : w3.cell? ⟨gb212, 2, none⟩ = some (.int .i64 a0_2) := (blk_cell BK212.out 2).trans rfl; have hfz4_0 := blk_frozen BK212.out 0; have hfz4_1 := blk_frozen BK212.out 1; have hfz4_2 := blk_frozen BK212.out 2))
  go_ret
  exact ⟨_, qE, by first | exact Kd.R_nil _ _ _ _ _ | exact Kd.N_nil _ _ _ _ _ | exact Kd.V_nil _ _ _ _ _ | exact Kd.Q_nil _ _ _ _ _ | exact Kd.S_nil _ _ _ _ _, qB⟩
 ·rw [if_neg c2] at H
  have c2b0 : (a0_0 == 1) = false := beq_eq_false_iff_ne.mpr c2
  have c2b1 : (a0_0 != 1) = true := bne_iff_ne.mpr c2
  by_cases c5 : a0_0 = 2
  ·rw [if_pos c5] at H
   have c5b0 : (a0_0 == 2) = true := beq_iff_eq.mpr c5
   have c5b1 : (a0_0 != 2) = false := bne_eq_false_iff_eq.mpr c5
   clear c5
   obtain ⟨y213, hy213⟩ : ∃ y_ : List Int, y_ = (([a0_1] : List Int)) := ⟨_, rfl⟩
   replace H : (some y213) = some r := qY hy213 H
   have Ny213 := Aside0.mk hy213
   clear hy213
   obtain rfl := Option.some.inj H
   go_enter Try.func107, Try.ntmps107
   go_wp2_with (first | ((with_reducible refine gate_dst (N := 1) rfl ?_); refine box_event ?hg (N := 1) ?hd (cs := #[.int .i64 a0_0, .int .i64 a0_1, .int .i64 a0_2]) (t := 93) ?hr ?_; (case hd => rfl); (case hg => rfl); (case hr => first | (go_simp; done) | (go_simp; rfl)); intro gb212 hg w6 hbox hb; have n0_ := Aside0.mk (below_step (qB) hb); have n1_ := Aside0.mk (hbox); have n2_ := Aside0.mk ((by rw [hg]; exact (below_size (qB)) : w.heap.size ≤ gb212)); have n3_ := Aside0.mk ((by rw [hg]; exact (below_size (qB)) : w.heap.size ≤ gb212)); clear HB; have HB := n0_; have BK212 := n1_; have GW212 := n2_; have GE212 := n3_; clear n0_ n1_ n2_ n3_; clear hb hbox hg; have hcz7_0 : w6.cell? ⟨gb212, 0, none⟩ = some (.int .i64 a0_0) := (blk_cell BK212.out 0).trans rfl; have hcz7_1 : w6.cell? ⟨gb212, 1, none⟩ = some (.int .i64 a0_1) := (blk_cell BK212.out 1).trans rfl; have hcz7_2 : w6.cell? ⟨gb212, 2, none⟩ = some (.int .i64 a0_2) := (blk_cell BK212.out 2).trans rfl; have hfz7_0 := blk_frozen BK212.out 0; have hfz7_1 := blk_frozen BK212.out 1; have hfz7_2 := blk_frozen BK212.out 2) | ((with_reducible refine gate_dst (N := 11) rfl ?_); refine Kd.R_lit (Kd.int .i64) _ 3 ?hg (N := 11) ?hd (xs := ([a0_1] : List Int)) (inner := [.int .i64 a0_1]) (ok := fun _ => True) (okp := fun _ => True) ?hr ?hp (fun _ hk => hk) trivial (Below.refl _ _) (Nat.le_refl _) (by simp) ?_; (case hd => rfl); (case hg => rfl); (case hr => first | (go_simp; done) | (go_simp; rfl)); (case hp => exact (Reps.one (show Kd.M (Kd.int .i64) _ _ _ a0_1 [.int .i64 a0_1] from rfl) (Reps.none _ _))); intro v214 w8 ho9 hb hg_ hnew_; clear hg_ hnew_; (first | rw [← Ny213.out] at ho9 | (simp only [Int.reduceToNat] at ho9; rw [← Ny213.out] at ho9)); have n0_ := Aside0.mk (Kd.R_lower ho9 (below_size (qB))); have n1_ := Aside0.mk (blk_below (g := gb212) (o := .cells #[.int .i64 a0_0, .int .i64 a0_1, .int .i64 a0_2] 93 (0, 0)) (qK BK212.out) hb); have n2_ := Aside0.mk (below_step (qB) hb); clear BK212; clear HB; have HO215 := n0_; have BK212 := n1_; have HB := n2_; clear n0_ n1_ n2_; clear hb ho9))
   go_ret
   exact ⟨_, qE, qR HO215.out, qB⟩
  ·rw [if_neg c5] at H
   have c5b0 : (a0_0 == 2) = false := beq_eq_false_iff_ne.mpr c5
   have c5b1 : (a0_0 != 2) = true := bne_iff_ne.mpr c5
   obtain ⟨y216, hy216⟩ : ∃ y_ : List Int, y_ = (([a0_1, a0_2] : List Int)) := ⟨_, rfl⟩
   replace H : (some y216) = some r := qY hy216 H
   have Ny216 := Aside0.mk hy216
   clear hy216
   obtain rfl := Option.some.inj H
   go_enter Try.func107, Try.ntmps107
   go_wp2_with (first | ((with_reducible refine gate_dst (N := 1) rfl ?_); refine box_event ?hg (N := 1) ?hd (cs := #[.int .i64 a0_0, .int .i64 a0_1, .int .i64 a0_2]) (t := 93) ?hr ?_; (case hd => rfl); (case hg => rfl); (case hr => first | (go_simp; done) | (go_simp; rfl)); intro gb212 hg w10 hbox hb; have n0_ := Aside0.mk (below_step (qB) hb); have n1_ := Aside0.mk (hbox); have n2_ := Aside0.mk ((by rw [hg]; exact (below_size (qB)) : w.heap.size ≤ gb212)); have n3_ := Aside0.mk ((by rw [hg]; exact (below_size (qB)) : w.heap.size ≤ gb212)); clear HB; have HB := n0_; have BK212 := n1_; have GW212 := n2_; have GE212 := n3_; clear n0_ n1_ n2_ n3_; clear hb hbox hg; have hcz11_0 : w10.cell? ⟨gb212, 0, none⟩ = some (.int .i64 a0_0) := (blk_cell BK212.out 0).trans rfl; have hcz11_1 : w10.cell? ⟨gb212, 1, none⟩ = some (.int .i64 a0_1) := (blk_cell BK212.out 1).trans rfl; have hcz11_2 : w10.cell? ⟨gb212, 2, none⟩ = some (.int .i64 a0_2) := (blk_cell BK212.out 2).trans rfl; have hfz11_0 := blk_frozen BK212.out 0; have hfz11_1 := blk_frozen BK212.out 1; have hfz11_2 := blk_frozen BK212.out 2) | ((with_reducible refine gate_dst (N := 16) rfl ?_); refine Kd.R_lit (Kd.int .i64) _ 3 ?hg (N := 16) ?hd (xs := ([a0_1, a0_2] : List Int)) (inner := [.int .i64 a0_1, .int .i64 a0_2]) (ok := fun _ => True) (okp := fun _ => True) ?hr ?hp (fun _ hk => hk) trivial (Below.refl _ _) (Nat.le_refl _) (by simp) ?_; (case hd => rfl); (case hg => rfl); (case hr => first | (go_simp; done) | (go_simp; rfl)); (case hp => exact (Reps.one (show Kd.M (Kd.int .i64) _ _ _ a0_1 [.int .i64 a0_1] from rfl) (Reps.one (show Kd.M (Kd.int .i64) _ _ _ a0_2 [.int .i64 a0_2] from rfl) (Reps.none _ _)))); intro v217 w12 ho13 hb hg_ hnew_; clear hg_ hnew_; (first | rw [← Ny216.out] at ho13 | (simp only [Int.reduceToNat] at ho13; rw [← Ny216.out] at ho13)); have n0_ := Aside0.mk (Kd.R_lower ho13 (below_size (qB))); have n1_ := Aside0.mk (blk_below (g := gb212) (o := .cells #[.int .i64 a0_0, .int .i64 a0_1, .int .i64 a0_2] 93 (0, 0)) (qK BK212.out) hb); have n2_ := Aside0.mk (below_step (qB) hb); clear BK212; clear HB; have HO218 := n0_; have BK212 := n1_; have HB := n2_; clear n0_ n1_ n2_; clear hb ho13))
   go_ret
   exact ⟨_, qE, qR HO218.out, qB⟩


/-! ### impl_isGate: function 79 -/
mutual
def impl_isGate.j0 : Nat → Int → Bool → Int → Int → Int → Option (Bool)
 | 0, _, _, _, _, _ => none
 | k + 1, x1, x5, x220000, x220001, x220002 => if x5 = true then (some false) else (if x220000 = 1 then (if x220001 < 0 then (impl_isGate.j1 k x1 true x220000 x220001 x220002) else (impl_isGate.j1 k x1 (decide (x220001 > 1)) x220000 x220001 x220002)) else (impl_isGate.j1 k x1 false x220000 x220001 x220002))
def impl_isGate.j1 : Nat → Int → Bool → Int → Int → Int → Option (Bool)
 | 0, _, _, _, _, _ => none
 | k + 1, x1, x14, x220000, x220001, x220002 => if x14 = true then (some false) else (if x220000 ≤ 2 then (impl_isGate.j2 k x1 (x220002 != 0) x220000 x220001 x220002) else (impl_isGate.j2 k x1 false x220000 x220001 x220002))
def impl_isGate.j2 : Nat → Int → Bool → Int → Int → Int → Option (Bool)
 | 0, _, _, _, _, _ => none
 | k + 1, x1, x28, x220000, x220001, x220002 => if x28 = true then (some false) else ((impl_Gate_uses.f x220000 x220001 x220002).bind fun t220 => ((impl_areWiresBelow.f t220 x1).bind fun t223 => (some t223)))
end
def impl_isGate.f (k : Nat) (a0_0 : Int) (a0_1 : Int) (a0_2 : Int) (a1 : Int) : Option (Bool) := if a0_0 < 1 then (impl_isGate.j0 k a1 true a0_0 a0_1 a0_2) else (impl_isGate.j0 k a1 (decide (a0_0 > 5)) a0_0 a0_1 a0_2)
theorem impl_isGate.mono_l : ∀ k, (∀ y0 y1 y2 y3 y4, LeO (impl_isGate.j0 k y0 y1 y2 y3 y4) (impl_isGate.j0 (k + 1) y0 y1 y2 y3 y4)) ∧ (∀ y0 y1 y2 y3 y4, LeO (impl_isGate.j1 k y0 y1 y2 y3 y4) (impl_isGate.j1 (k + 1) y0 y1 y2 y3 y4)) ∧ (∀ y0 y1 y2 y3 y4, LeO (impl_isGate.j2 k y0 y1 y2 y3 y4) (impl_isGate.j2 (k + 1) y0 y1 y2 y3 y4))
 | 0 => ⟨fun _ _ _ _ _ r h => by simp [impl_isGate.j0] at h, fun _ _ _ _ _ r h => by simp [impl_isGate.j1] at h, fun _ _ _ _ _ r h => by simp [impl_isGate.j2] at h⟩
 | k + 1 => by
  obtain ⟨ih0, ih1, ih2⟩ := impl_isGate.mono_l k
  refine ⟨?_, ?_, ?_⟩
  ·intro y0 y1 y2 y3 y4
   unfold impl_isGate.j0
   repeat' first
   | (with_reducible exact ih0 _ _ _ _ _)
   | (with_reducible exact ih1 _ _ _ _ _)
   | (with_reducible exact ih2 _ _ _ _ _)
   | (with_reducible first | exact LeO.refl _ | exact LeO.none _ | refine LeO.ite ?_ ?_ | refine LeO.bind ?_ (fun _ => ?_))
   | exact ih0 _ _ _ _ _
   | exact ih1 _ _ _ _ _
   | exact ih2 _ _ _ _ _
   | exact LeO.none _ | refine LeO.ite ?_ ?_ | refine LeO.bind ?_ (fun _ => ?_)
  ·intro y0 y1 y2 y3 y4
   unfold impl_isGate.j1
   repeat' first
   | (with_reducible exact ih0 _ _ _ _ _)
   | (with_reducible exact ih1 _ _ _ _ _)
   | (with_reducible exact ih2 _ _ _ _ _)
   | (with_reducible first | exact LeO.refl _ | exact LeO.none _ | refine LeO.ite ?_ ?_ | refine LeO.bind ?_ (fun _ => ?_))
   | exact ih0 _ _ _ _ _
   | exact ih1 _ _ _ _ _
   | exact ih2 _ _ _ _ _
   | exact LeO.none _ | refine LeO.ite ?_ ?_ | refine LeO.bind ?_ (fun _ => ?_)
  ·intro y0 y1 y2 y3 y4
   unfold impl_isGate.j2
   repeat' first
   | (with_reducible exact ih0 _ _ _ _ _)
   | (with_reducible exact ih1 _ _ _ _ _)
   | (with_reducible exact ih2 _ _ _ _ _)
   | (with_reducible first | exact LeO.refl _ | exact LeO.none _ | refine LeO.ite ?_ ?_ | refine LeO.bind ?_ (fun _ => ?_))
   | exact ih0 _ _ _ _ _
   | exact ih1 _ _ _ _ _
   | exact ih2 _ _ _ _ _
   | exact LeO.none _ | refine LeO.ite ?_ ?_ | refine LeO.bind ?_ (fun _ => ?_)
theorem impl_isGate.mono : ∀ a0 a1 a2 a3 k, LeO (impl_isGate.f k a0 a1 a2 a3) (impl_isGate.f (k + 1) a0 a1 a2 a3) := by
 intro a0 a1 a2 a3 k
 obtain ⟨ih0, ih1, ih2⟩ := impl_isGate.mono_l k
 unfold impl_isGate.f
 repeat' first
   | (with_reducible exact ih0 _ _ _ _ _)
   | (with_reducible exact ih1 _ _ _ _ _)
   | (with_reducible exact ih2 _ _ _ _ _)
   | (with_reducible first | exact LeO.refl _ | exact LeO.none _ | refine LeO.ite ?_ ?_ | refine LeO.bind ?_ (fun _ => ?_))
   | exact ih0 _ _ _ _ _
   | exact ih1 _ _ _ _ _
   | exact ih2 _ _ _ _ _
   | exact LeO.none _ | refine LeO.ite ?_ ?_ | refine LeO.bind ?_ (fun _ => ?_)
set_option maxHeartbeats 8000000 in
set_option maxRecDepth 100000 in
theorem impl_isGate.calls (k : Nat) (a0_0 : Int) (a0_1 : Int) (a0_2 : Int) (a1 : Int) (r : Bool) (w : World) (h : impl_isGate.f k a0_0 a0_1 a0_2 a1 = some r) :
  Calls Try.prog 79 #[.agg #[.int .i64 a0_0, .int .i64 a0_1, .int .i64 a0_2], .int .i64 a1] w fun e w' => e = .returned (.bool r) ∧ Below w.heap.size w w' := by
 have hu93 := Try.underlying93
 have HB := Aside0.mk (Below.refl w.heap.size w)
 have H : (if a0_0 < 1 then (impl_isGate.j0 k a1 true a0_0 a0_1 a0_2) else (impl_isGate.j0 k a1 (decide (a0_0 > 5)) a0_0 a0_1 a0_2)) = some r := h
 clear h
 have HC3 := Aside0.mk H
 clear H
 go_enter Try.func79, Try.ntmps79
 go_upto_region 1 with (first | ((with_reducible refine gate_dst (N := 2) rfl ?_); refine box_event ?hg (N := 2) ?hd (cs := #[.int .i64 a0_0, .int .i64 a0_1, .int .i64 a0_2]) (t := 93) ?hr ?_; (case hd => rfl); (case hg => rfl); (case hr => first | (go_simp; done) | (go_simp; rfl)); intro gb219 hg w4 hbox hb; have n0_ := Aside0.mk (below_step (qB) hb); have n1_ := Aside0.mk (hbox); have n2_ := Aside0.mk ((by rw [hg]; exact (below_size (qB)) : w.heap.size ≤ gb219)); have n3_ := Aside0.mk ((by rw [hg]; exact (below_size (qB)) : w.heap.size ≤ gb219)); clear HB; have HB := n0_; have BK219 := n1_; have GW219 := n2_; have GE219 := n3_; clear n0_ n1_ n2_ n3_; clear hb hbox hg))
 (try simp only [Act.put, List.setIfInBounds_toArray, List.set_cons_zero, List.set_cons_succ])
 go_cut [5] (fun v5 wc => ∃ (kq : Nat) (x5_2 : Bool), v5 = .bool x5_2 ∧ Aside0 (impl_isGate.j0 kq a1 x5_2 a0_0 a0_1 a0_2 = some r) ∧ Aside0 (kq ≤ k) ∧ Aside0 (wc.heap[gb219]? = some (.cells #[.int .i64 a0_0, .int .i64 a0_1, .int .i64 a0_2] 93 (0, 0))) ∧ Aside0 (Below w.heap.size w wc))
 case first =>
  have H := HC3.out
  clear HC3
  by_cases c5 : a0_0 < 1
  ·rw [if_pos c5] at H
   have c5b0 : decide (a0_0 < 1) = true := decide_eq_true c5
   clear c5
   (first | rw [c5b0] | (simp only [i64_w, i32_w]; rw [c5b0]) | skip)
   have H' := Aside0.mk H
   clear H
   have hcz6_0 : w4.cell? ⟨gb219, 0, none⟩ = some (.int .i64 a0_0) := (blk_cell BK219.out 0).trans rfl
   have hcz6_1 : w4.cell? ⟨gb219, 1, none⟩ = some (.int .i64 a0_1) := (blk_cell BK219.out 1).trans rfl
   have hcz6_2 : w4.cell? ⟨gb219, 2, none⟩ = some (.int .i64 a0_2) := (blk_cell BK219.out 2).trans rfl
   have hfz6_0 := blk_frozen BK219.out 0
   have hfz6_1 := blk_frozen BK219.out 1
   have hfz6_2 := blk_frozen BK219.out 2
   go_wp2
   go_meet
   case rel => exact ⟨_, (true), qS, H', ⟨by first | omega | exact Nat.le_refl _⟩, ⟨by exact qK BK219.out⟩, ⟨qB⟩⟩
  ·rw [if_neg c5] at H
   have c5b0 : decide (a0_0 < 1) = false := decide_eq_false c5
   clear c5
   (first | rw [c5b0] | (simp only [i64_w, i32_w]; rw [c5b0]) | skip)
   have H' := Aside0.mk H
   clear H
   have hcz7_0 : w4.cell? ⟨gb219, 0, none⟩ = some (.int .i64 a0_0) := (blk_cell BK219.out 0).trans rfl
   have hcz7_1 : w4.cell? ⟨gb219, 1, none⟩ = some (.int .i64 a0_1) := (blk_cell BK219.out 1).trans rfl
   have hcz7_2 : w4.cell? ⟨gb219, 2, none⟩ = some (.int .i64 a0_2) := (blk_cell BK219.out 2).trans rfl
   have hfz7_0 := blk_frozen BK219.out 0
   have hfz7_1 := blk_frozen BK219.out 1
   have hfz7_2 := blk_frozen BK219.out 2
   go_wp2
   go_meet
   case rel => exact ⟨_, (decide (a0_0 > 5)), qS, H', ⟨by first | omega | exact Nat.le_refl _⟩, ⟨by exact qK BK219.out⟩, ⟨qB⟩⟩
 case rest =>
  clear HC3
  try clear p2
  try clear c5
  try clear c5b0
  try clear c7
  try clear hcz6_0
  try clear hcz6_1
  try clear hcz6_2
  try clear hcz7_0
  try clear hcz7_1
  try clear hcz7_2
  try clear hfz6_0
  try clear hfz6_1
  try clear hfz6_2
  try clear hfz7_0
  try clear hfz7_1
  try clear hfz7_2
  obtain ⟨kq, x5_2, rfl, HA, HJ2, BK219, HB⟩ := hcut
  cases kq with
  | zero => exact absurd HA.out (by simp [impl_isGate.j0])
  | succ kj2 =>
   have H := HA.out
   clear HA
   simp only [impl_isGate.j0] at H
   by_cases c8 : x5_2 = true
   ·subst c8
    have H1 : (some false) = some r := by rw [if_pos rfl] at H; exact H
    clear H
    have H := H1
    clear H1
    obtain rfl := Option.some.inj H
    go_wp2
    go_ret
    exact ⟨qE, qB⟩
   ·replace c8 := Bool.eq_false_iff.mpr c8
    subst c8
    have H1 : (if a0_0 = 1 then (if a0_1 < 0 then (impl_isGate.j1 kj2 a1 true a0_0 a0_1 a0_2) else (impl_isGate.j1 kj2 a1 (decide (a0_1 > 1)) a0_0 a0_1 a0_2)) else (impl_isGate.j1 kj2 a1 false a0_0 a0_1 a0_2)) = some r := by rw [if_neg (show ¬ (false = true) by decide)] at H; exact H
    clear H
    have H := H1
    clear H1
    have HC9 := Aside0.mk H
    clear H
    go_upto_region 3 with (fail)
    go_cut [14] (fun v14 wc => ∃ (kq : Nat) (x14_8 : Bool), v14 = .bool x14_8 ∧ Aside0 (impl_isGate.j1 kq a1 x14_8 a0_0 a0_1 a0_2 = some r) ∧ Aside0 (kq ≤ kj2) ∧ Aside0 (wc.heap[gb219]? = some (.cells #[.int .i64 a0_0, .int .i64 a0_1, .int .i64 a0_2] 93 (0, 0))) ∧ Aside0 (Below w.heap.size w wc))
    case first =>
     have H := HC9.out
     clear HC9
     by_cases c10 : a0_0 = 1
     ·rw [if_pos c10] at H
      have c10b0 : (a0_0 == 1) = true := beq_iff_eq.mpr c10
      have c10b1 : (a0_0 != 1) = false := bne_eq_false_iff_eq.mpr c10
      clear c10
      (first | rw [c10b0] | (simp only [i64_w, i32_w]; rw [c10b0]) | skip)
      by_cases c11 : a0_1 < 0
      ·rw [if_pos c11] at H
       have c11b0 : decide (a0_1 < 0) = true := decide_eq_true c11
       clear c11
       have H' := Aside0.mk H
       clear H
       have hcz12_0 : wc.cell? ⟨gb219, 0, none⟩ = some (.int .i64 a0_0) := (blk_cell BK219.out 0).trans rfl
       have hcz12_1 : wc.cell? ⟨gb219, 1, none⟩ = some (.int .i64 a0_1) := (blk_cell BK219.out 1).trans rfl
       have hcz12_2 : wc.cell? ⟨gb219, 2, none⟩ = some (.int .i64 a0_2) := (blk_cell BK219.out 2).trans rfl
       have hfz12_0 := blk_frozen BK219.out 0
       have hfz12_1 := blk_frozen BK219.out 1
       have hfz12_2 := blk_frozen BK219.out 2
       go_wp2
       go_meet
       case rel => exact ⟨_, (true), qS, H', ⟨by have := HJ2.out; first | omega | exact Nat.le_refl _⟩, ⟨by exact qK BK219.out⟩, ⟨qB⟩⟩
      ·rw [if_neg c11] at H
       have c11b0 : decide (a0_1 < 0) = false := decide_eq_false c11
       clear c11
       have H' := Aside0.mk H
       clear H
       have hcz13_0 : wc.cell? ⟨gb219, 0, none⟩ = some (.int .i64 a0_0) := (blk_cell BK219.out 0).trans rfl
       have hcz13_1 : wc.cell? ⟨gb219, 1, none⟩ = some (.int .i64 a0_1) := (blk_cell BK219.out 1).trans rfl
       have hcz13_2 : wc.cell? ⟨gb219, 2, none⟩ = some (.int .i64 a0_2) := (blk_cell BK219.out 2).trans rfl
       have hfz13_0 := blk_frozen BK219.out 0
       have hfz13_1 := blk_frozen BK219.out 1
       have hfz13_2 := blk_frozen BK219.out 2
       go_wp2
       go_meet
       case rel => exact ⟨_, (decide (a0_1 > 1)), qS, H', ⟨by have := HJ2.out; first | omega | exact Nat.le_refl _⟩, ⟨by exact qK BK219.out⟩, ⟨qB⟩⟩
     ·rw [if_neg c10] at H
      have c10b0 : (a0_0 == 1) = false := beq_eq_false_iff_ne.mpr c10
      have c10b1 : (a0_0 != 1) = true := bne_iff_ne.mpr c10
      (first | rw [c10b0] | (simp only [i64_w, i32_w]; rw [c10b0]) | skip)
      have H' := Aside0.mk H
      clear H
      have hcz14_0 : wc.cell? ⟨gb219, 0, none⟩ = some (.int .i64 a0_0) := (blk_cell BK219.out 0).trans rfl
      have hcz14_1 : wc.cell? ⟨gb219, 1, none⟩ = some (.int .i64 a0_1) := (blk_cell BK219.out 1).trans rfl
      have hcz14_2 : wc.cell? ⟨gb219, 2, none⟩ = some (.int .i64 a0_2) := (blk_cell BK219.out 2).trans rfl
      have hfz14_0 := blk_frozen BK219.out 0
      have hfz14_1 := blk_frozen BK219.out 1
      have hfz14_2 := blk_frozen BK219.out 2
      go_wp2
      go_meet
      case rel => exact ⟨_, (false), qS, H', ⟨by have := HJ2.out; first | omega | exact Nat.le_refl _⟩, ⟨by exact qK BK219.out⟩, ⟨qB⟩⟩
    case rest =>
     clear HC9
     try clear c1
     try clear p2
     try clear c5
     try clear c5b0
     try clear c7
     try clear c8
     try clear c10
     try clear c10b0
     try clear c10b1
     try clear c11
     try clear c11b0
     try clear hcz12_0
     try clear hcz12_1
     try clear hcz12_2
     try clear hcz13_0
     try clear hcz13_1
     try clear hcz13_2
     try clear hcz14_0
     try clear hcz14_1
     try clear hcz14_2
     try clear hcz6_0
     try clear hcz6_1
     try clear hcz6_2
     try clear hcz7_0
     try clear hcz7_1
     try clear hcz7_2
     try clear hfz12_0
     try clear hfz12_1
     try clear hfz12_2
     try clear hfz13_0
     try clear hfz13_1
     try clear hfz13_2
     try clear hfz14_0
     try clear hfz14_1
     try clear hfz14_2
     try clear hfz6_0
     try clear hfz6_1
     try clear hfz6_2
     try clear hfz7_0
     try clear hfz7_1
     try clear hfz7_2
     try clear p2
     obtain ⟨kq, x14_8, rfl, HA, HJ8, BK219, HB⟩ := hcut
     cases kq with
     | zero => exact absurd HA.out (by simp [impl_isGate.j1])
     | succ kj8 =>
      have H := HA.out
      clear HA
      simp only [impl_isGate.j1] at H
      by_cases c15 : x14_8 = true
      ·subst c15
       have H1 : (some false) = some r := by rw [if_pos rfl] at H; exact H
       clear H
       have H := H1
       clear H1
       obtain rfl := Option.some.inj H
       go_wp2
       go_ret
       exact ⟨qE, qB⟩
      ·replace c15 := Bool.eq_false_iff.mpr c15
       subst c15
       have H1 : (if a0_0 ≤ 2 then (impl_isGate.j2 kj8 a1 (a0_2 != 0) a0_0 a0_1 a0_2) else (impl_isGate.j2 kj8 a1 false a0_0 a0_1 a0_2)) = some r := by rw [if_neg (show ¬ (false = true) by decide)] at H; exact H
       clear H
       have H := H1
       clear H1
       have HC16 := Aside0.mk H
       clear H
       go_upto_region 5 with (fail)
       go_cut [28] (fun v28 wc => ∃ (kq : Nat) (x28_15 : Bool), v28 = .bool x28_15 ∧ Aside0 (impl_isGate.j2 kq a1 x28_15 a0_0 a0_1 a0_2 = some r) ∧ Aside0 (kq ≤ kj8) ∧ Aside0 (wc.heap[gb219]? = some (.cells #[.int .i64 a0_0, .int .i64 a0_1, .int .i64 a0_2] 93 (0, 0))) ∧ Aside0 (Below w.heap.size w wc))
       case first =>
        have H := HC16.out
        clear HC16
        by_cases c17 : a0_0 ≤ 2
        ·rw [if_pos c17] at H
         have c17b0 : decide (a0_0 ≤ 2) = true := decide_eq_true c17
         clear c17
         (first | rw [c17b0] | (simp only [i64_w, i32_w]; rw [c17b0]) | skip)
         have H' := Aside0.mk H
         clear H
         have hcz18_0 : wc.cell? ⟨gb219, 0, none⟩ = some (.int .i64 a0_0) := (blk_cell BK219.out 0).trans rfl
         have hcz18_1 : wc.cell? ⟨gb219, 1, none⟩ = some (.int .i64 a0_1) := (blk_cell BK219.out 1).trans rfl
         have hcz18_2 : wc.cell? ⟨gb219, 2, none⟩ = some (.int .i64 a0_2) := (blk_cell BK219.out 2).trans rfl
         have hfz18_0 := blk_frozen BK219.out 0
         have hfz18_1 := blk_frozen BK219.out 1
         have hfz18_2 := blk_frozen BK219.out 2
         go_wp2
         go_meet
         case rel => exact ⟨_, ((a0_2 != 0)), qS, H', ⟨by have := HJ2.out; have := HJ8.out; first | omega | exact Nat.le_refl _⟩, ⟨by exact qK BK219.out⟩, ⟨qB⟩⟩
        ·rw [if_neg c17] at H
         have c17b0 : decide (a0_0 ≤ 2) = false := decide_eq_false c17
         clear c17
         (first | rw [c17b0] | (simp only [i64_w, i32_w]; rw [c17b0]) | skip)
         have H' := Aside0.mk H
         clear H
         have hcz19_0 : wc.cell? ⟨gb219, 0, none⟩ = some (.int .i64 a0_0) := (blk_cell BK219.out 0).trans rfl
         have hcz19_1 : wc.cell? ⟨gb219, 1, none⟩ = some (.int .i64 a0_1) := (blk_cell BK219.out 1).trans rfl
         have hcz19_2 : wc.cell? ⟨gb219, 2, none⟩ = some (.int .i64 a0_2) := (blk_cell BK219.out 2).trans rfl
         have hfz19_0 := blk_frozen BK219.out 0
         have hfz19_1 := blk_frozen BK219.out 1
         have hfz19_2 := blk_frozen BK219.out 2
         go_wp2
         go_meet
         case rel => exact ⟨_, (false), qS, H', ⟨by have := HJ2.out; have := HJ8.out; first | omega | exact Nat.le_refl _⟩, ⟨by exact qK BK219.out⟩, ⟨qB⟩⟩
       case rest =>
        clear HC16
        try clear c1
        try clear p2
        try clear c5
        try clear c5b0
        try clear c7
        try clear c8
        try clear c10
        try clear c10b0
        try clear c10b1
        try clear c11
        try clear c11b0
        try clear c15
        try clear c17
        try clear c17b0
        try clear hcz12_0
        try clear hcz12_1
        try clear hcz12_2
        try clear hcz13_0
        try clear hcz13_1
        try clear hcz13_2
        try clear hcz14_0
        try clear hcz14_1
        try clear hcz14_2
        try clear hcz18_0
        try clear hcz18_1
        try clear hcz18_2
        try clear hcz19_0
        try clear hcz19_1
        try clear hcz19_2
        try clear hcz6_0
        try clear hcz6_1
        try clear hcz6_2
        try clear hcz7_0
        try clear hcz7_1
        try clear hcz7_2
        try clear hfz12_0
        try clear hfz12_1
        try clear hfz12_2
        try clear hfz13_0
        try clear hfz13_1
        try clear hfz13_2
        try clear hfz14_0
        try clear hfz14_1
        try clear hfz14_2
        try clear hfz18_0
        try clear hfz18_1
        try clear hfz18_2
        try clear hfz19_0
        try clear hfz19_1
        try clear hfz19_2
        try clear hfz6_0
        try clear hfz6_1
        try clear hfz6_2
        try clear hfz7_0
        try clear hfz7_1
        try clear hfz7_2
        try clear p2
        obtain ⟨kq, x28_15, rfl, HA, HJ15, BK219, HB⟩ := hcut
        cases kq with
        | zero => exact absurd HA.out (by simp [impl_isGate.j2])
        | succ kj15 =>
         have H := HA.out
         clear HA
         simp only [impl_isGate.j2] at H
         by_cases c20 : x28_15 = true
         ·subst c20
          have H1 : (some false) = some r := by rw [if_pos rfl] at H; exact H
          clear H
          have H := H1
          clear H1
          obtain rfl := Option.some.inj H
          go_wp2
          go_ret
          exact ⟨qE, qB⟩
         ·replace c20 := Bool.eq_false_iff.mpr c20
          subst c20
          have H1 : ((impl_Gate_uses.f a0_0 a0_1 a0_2).bind fun t220 => ((impl_areWiresBelow.f t220 a1).bind fun t223 => (some t223))) = some r := by rw [if_neg (show ¬ (false = true) by decide)] at H; exact H
          clear H
          have H := H1
          clear H1
          replace H := Option.bind_eq_some_iff.mp H
          obtain ⟨t220, A210, H⟩ := H
          replace H : ((impl_areWiresBelow.f t220 a1).bind fun t223 => (some t223)) = some r := H
          have A21 := Aside0.mk A210
          clear A210
          replace H := Option.bind_eq_some_iff.mp H
          obtain ⟨t223, A220, H⟩ := H
          replace H : (some t223) = some r := H
          have A22 := Aside0.mk A220
          clear A220
          obtain rfl := Option.some.inj H
          have hcz23_0 : wc.cell? ⟨gb219, 0, none⟩ = some (.int .i64 a0_0) := (blk_cell BK219.out 0).trans rfl
          have hcz23_1 : wc.cell? ⟨gb219, 1, none⟩ = some (.int .i64 a0_1) := (blk_cell BK219.out 1).trans rfl
          have hcz23_2 : wc.cell? ⟨gb219, 2, none⟩ = some (.int .i64 a0_2) := (blk_cell BK219.out 2).trans rfl
          have hfz23_0 := blk_frozen BK219.out 0
          have hfz23_1 := blk_frozen BK219.out 1
          have hfz23_2 := blk_frozen BK219.out 2
          go_wp2_with (first | ((with_reducible refine gate_callee (f := 107) rfl ?_); refine goesL_ (some 38) rfl rfl Try.func107 (by kernel_rfl) rfl #[.agg #[.int .i64 a0_0, .int .i64 a0_1, .int .i64 a0_2]] rfl qG ?_; (with_reducible refine (impl_Gate_uses.calls a0_0 a0_1 a0_2 t220 _ A21.out).mono ?_); rintro e w24 ⟨v221, rfl, ho0, hb⟩; refine ⟨_, rfl, ?_⟩; have n0_ := Aside0.mk (Kd.R_lower ho0 (below_size (qB))); have n1_ := Aside0.mk (blk_below (g := gb219) (o := .cells #[.int .i64 a0_0, .int .i64 a0_1, .int .i64 a0_2] 93 (0, 0)) (qK BK219.out) hb); have n2_ := Aside0.mk (below_step (qB) hb); clear BK219; clear HB; have HO222 := n0_; have BK219 := n1_; have HB := n2_; clear n0_ n1_ n2_; (try clear hb); (try clear hb2); (try clear hk); (try clear hi); (try clear ho0); obtain ⟨Ao25, co25, eo25⟩ := Kd.R_slice HO222.out; subst eo25) | ((with_reducible refine gate_callee (f := 80) rfl ?_); refine goesL_ (some 40) rfl rfl Try.func80 (by kernel_rfl) rfl #[.slice Ao25 t220.length co25, .int .i64 a1] rfl qG ?_; (with_reducible refine (impl_areWiresBelow.calls _ _ t220 a1 t223 _ ?side1 ?side2 A22.out).mono ?_); (case side1 => repeat (first | exact (Kd.R_reads' HO222.out).2.2 | (with_reducible refine Kd.C_alloc ?_ _) | (with_reducible refine Kd.C_drewN ?_ _) | (with_reducible refine Kd.C_drew ?_))); (case side2 => exact (Kd.R_reads' HO222.out).2.1); rintro e w26 ⟨rfl, hb⟩; refine ⟨_, rfl, ?_⟩; have n0_ := Aside0.mk (Kd.R_below (qR HO222.out) hb); have n1_ := Aside0.mk (blk_below (g := gb219) (o := .cells #[.int .i64 a0_0, .int .i64 a0_1, .int .i64 a0_2] 93 (0, 0)) (qK BK219.out) hb); have n2_ := Aside0.mk (below_step (qB) hb); clear HO222; clear BK219; clear HB; have HO222 := n0_; have BK219 := n1_; have HB := n2_; clear n0_ n1_ n2_; (try clear hb); (try clear hb2); (try clear hk); (try clear hi)))
          go_ret
          exact ⟨qE, qB⟩

end Go.Proofs.Ytckgeanmljmhfaa.X
