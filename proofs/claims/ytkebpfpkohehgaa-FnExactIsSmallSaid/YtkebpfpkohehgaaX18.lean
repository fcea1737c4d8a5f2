/- Each Go function as a Lean function, with the proof that the call comes to just its answer; or a law's row out of its pure statement. Conditions: the arguments are of their kinds. Written by this session's program wip/xp/xp.sh. -/
import Derived.Test.YtkebpfpkohehgaaX0
import Derived.Test.YtkebpfpkohehgaaX10
import Derived.Test.YtkebpfpkohehgaaX15
import Derived.Test.YtkebpfpkohehgaaX16
namespace Go.Proofs.Ytkebpfpkohehgaa.X
open Go.RowKit Go.Proofs.YtkebpfpkohehgaaW.PrintWords Go.Proofs.YtkebpfpkohehgaaW.PrintLast Go.Proofs.YtkebpfpkohehgaaW.PrintMore
attribute [local go_sem] max2_int min2_int max_two min_two max_three min_three max_four min_four   -- for this text's walks alone
set_option linter.unusedVariables false
set_option linter.unusedSimpArgs false

-- HAND
/-! ### impl_GoodProgram: function 10 -/
/-- Is there an element of which p says yes? -/
def impl_GoodProgram_any.any {α : Type} (p : α → Option Bool) : List α → Option Bool
 | [] => some false
 | x :: t => (p x).bind fun b => if b = true then some true else impl_GoodProgram_any.any p t
def impl_GoodProgram_any.p (k : Nat) (a1 a2 : Int) (ls : List S82) (lc : List S54) (x : S54) : Option Bool := (impl_Program_isCommand.f k a1 a2 ls lc x.f0 x.f1).bind fun b => some (!b)
def impl_GoodProgram_any.f (k : Nat) (l : List S54) (a1 a2 : Int) (ls : List S82) (lc : List S54) : Option (Bool) := impl_GoodProgram_any.any (impl_GoodProgram_any.p k a1 a2 ls lc) l
theorem impl_GoodProgram_any.p_mono : ∀ (a1 a2 : Int) (ls : List S82) (lc : List S54) (x : S54) (k : Nat), LeO (impl_GoodProgram_any.p k a1 a2 ls lc x) (impl_GoodProgram_any.p (k + 1) a1 a2 ls lc x) := by
 intro a1 a2 ls lc x k
 unfold impl_GoodProgram_any.p
 exact LeO.bind (impl_Program_isCommand.mono _ _ _ _ _ _ _) (fun _ => LeO.refl _)
set_option maxHeartbeats 4000000 in
theorem impl_GoodProgram_any.pred (k : Nat) (B1 : Nat) (a1 a2 : Int) (As : Option Addr) (cs : Nat) (ls : List S82) (Ac : Option Addr) (cc : Nat) (lc : List S54) (x : S54) (Aq0 : Option Addr) (cq0 : Nat) (Aq1 : Option Addr) (cq1 : Nat) (W : World) (b : Bool) (hx1 : W.heap[B1]? = some (.cells #[.int .i64 a1, .int .i64 a2, .slice As ls.length cs, .slice Ac lc.length cc] 31 (0, 0))) (hs : Kd.C k82 W As ls.length ls) (ks : ls.length ≤ cs) (hcm : Kd.C k54 W Ac lc.length lc) (kc : lc.length ≤ cc) (hq0 : Kd.C k82 W Aq0 x.f0.length x.f0) (lq0 : x.f0.length ≤ cq0) (hq1 : Kd.C k80 W Aq1 x.f1.length x.f1) (lq1 : x.f1.length ≤ cq1) (h : impl_GoodProgram_any.p k a1 a2 ls lc x = some b) :
  Calls Try.prog 34 #[.agg #[.slice Aq0 x.f0.length cq0, .slice Aq1 x.f1.length cq1], .pointer (some ⟨B1, 0, none⟩)] W fun e w' => e = .returned (.bool b) ∧ Below W.heap.size W w' := by
 have hc0 : W.cell? ⟨B1, 0, none⟩ = some (.int .i64 a1) := (blk_cell hx1 0).trans rfl
 have hc1 : W.cell? ⟨B1, 1, none⟩ = some (.int .i64 a2) := (blk_cell hx1 1).trans rfl
 have hc2 : W.cell? ⟨B1, 2, none⟩ = some (.slice As ls.length cs) := (blk_cell hx1 2).trans rfl
 have hc3 : W.cell? ⟨B1, 3, none⟩ = some (.slice Ac lc.length cc) := (blk_cell hx1 3).trans rfl
 obtain ⟨g, hg, h2⟩ := Option.bind_eq_some_iff.mp h
 obtain rfl : (!g) = b := Option.some.inj h2
 have HG := Aside0.mk hg
 have H0 := Aside0.mk hq0
 have H1 := Aside0.mk hq1
 have L0 := Aside0.mk lq0
 have L1 := Aside0.mk lq1
 have HS := Aside0.mk hs
 have KS := Aside0.mk ks
 have HM := Aside0.mk hcm
 have KC := Aside0.mk kc
 clear hg h h2 hx1 hq0 hq1 lq0 lq1 hs ks hcm kc
 go_enter Try.func34, Try.ntmps34
 go_wp2_with (first | ((with_reducible refine gate_dst (N := 2) rfl ?_); refine box_event ?hg (N := 2) ?hd (cs := #[.slice Aq0 x.f0.length cq0, .slice Aq1 x.f1.length cq1]) (t := 54) ?hr ?_; (case hd => rfl); (case hg => rfl); (case hr => first | (go_simp; done) | (go_simp; rfl)); intro gb hgb w2 hbox hb; have HB := Aside0.mk hb; have hz0 : w2.cell? ⟨gb, 0, none⟩ = some (.slice Aq0 x.f0.length cq0) := (blk_cell hbox 0).trans rfl; have hz1 : w2.cell? ⟨gb, 1, none⟩ = some (.slice Aq1 x.f1.length cq1) := (blk_cell hbox 1).trans rfl; have hy0 := (hb.cell (World.block_lt_of_cell? W _ hc0)).trans hc0; have hy1 := (hb.cell (World.block_lt_of_cell? W _ hc1)).trans hc1; have hy2 := (hb.cell (World.block_lt_of_cell? W _ hc2)).trans hc2; have hy3 := (hb.cell (World.block_lt_of_cell? W _ hc3)).trans hc3; clear hbox hb hgb hc0 hc1 hc2 hc3) | (go_at_call 35; (with_reducible refine (impl_Program_isCommand.calls k a1 a2 _ _ ls _ _ lc _ _ x.f0 _ _ x.f1 g _ ?side1 ?side2 ?side3 ?side4 ?side5 ?side6 ?side7 ?side8 HG.out).mono ?_); (case side1 => exact qC (Kd.C_below HS.out HB.out)); (case side2 => exact KS.out); (case side3 => exact qC (Kd.C_below HM.out HB.out)); (case side4 => exact KC.out); (case side5 => exact qC (Kd.C_below H0.out HB.out)); (case side6 => exact L0.out); (case side7 => exact qC (Kd.C_below H1.out HB.out)); (case side8 => exact L1.out); rintro e w' ⟨rfl, hd⟩; have HD := Aside0.mk (below_step (qB) hd); clear hd))
 go_ret
 exact ⟨rfl, HD.out⟩
theorem impl_GoodProgram_any.mono : ∀ (l : List S54) (a1 a2 : Int) (ls : List S82) (lc : List S54) (k : Nat), LeO (impl_GoodProgram_any.f k l a1 a2 ls lc) (impl_GoodProgram_any.f (k + 1) l a1 a2 ls lc) := by
 intro l a1 a2 ls lc k
 unfold impl_GoodProgram_any.f
 induction l with
 | nil => exact LeO.refl _
 | cons x t ih =>
  unfold impl_GoodProgram_any.any
  exact LeO.bind (impl_GoodProgram_any.p_mono a1 a2 ls lc x k) (fun _ => LeO.ite (LeO.refl _) ih)
set_option maxHeartbeats 4000000 in
theorem impl_GoodProgram_any.index (k : Nat) (A0 : Option Addr) (c0 : Nat) (l0 : List S54) (B1 : Nat) (a1 a2 : Int) (As : Option Addr) (cs : Nat) (ls : List S82) (Ac : Option Addr) (cc : Nat) (lc : List S54) (r : Bool) (w : World) (hr0 : Kd.C k54 w A0 l0.length l0) (hc0 : l0.length ≤ c0) (hx1 : w.heap[B1]? = some (.cells #[.int .i64 a1, .int .i64 a2, .slice As ls.length cs, .slice Ac lc.length cc] 31 (0, 0))) (hs : Kd.C k82 w As ls.length ls) (ks : ls.length ≤ cs) (hcm : Kd.C k54 w Ac lc.length lc) (kc : lc.length ≤ cc) (h : impl_GoodProgram_any.any (impl_GoodProgram_any.p k a1 a2 ls lc) l0 = some r) :
  Calls Try.prog 55 #[.slice A0 l0.length c0, .func (.func 34) #[] #[.pointer (some ⟨B1, 0, none⟩)]] w
   fun e w' => (∃ n : Int, e = .returned (.int .i64 n) ∧ decide (n ≥ 0) = r) ∧ Below w.heap.size w w' := by
 have hm := hr0.2.1
 have HR := Aside0.mk hr0
 have HH := Aside0.mk h
 clear hr0 h
 have hone : ∀ (x : S54) (W : World), Below w.heap.size w W → ∀ (Aq0 : Option Addr) (cq0 : Nat) (Aq1 : Option Addr) (cq1 : Nat), Kd.C k82 W Aq0 x.f0.length x.f0 → x.f0.length ≤ cq0 → Kd.C k80 W Aq1 x.f1.length x.f1 → x.f1.length ≤ cq1 → ∀ b, (impl_GoodProgram_any.p k a1 a2 ls lc) x = some b → Calls Try.prog 34 #[.agg #[.slice Aq0 x.f0.length cq0, .slice Aq1 x.f1.length cq1], .pointer (some ⟨B1, 0, none⟩)] W fun e w' => e = .returned (.bool b) ∧ Below W.heap.size W w' :=
  fun x W hb Aq0 cq0 Aq1 cq1 hq0 lq0 hq1 lq1 b h => impl_GoodProgram_any.pred k B1 a1 a2 As cs ls Ac cc lc x Aq0 cq0 Aq1 cq1 W b ((hb.block _ (blk_lt hx1)).trans hx1) (Kd.C_below hs hb) ks (Kd.C_below hcm hb) kc hq0 lq0 hq1 lq1 h
 have HO := Aside0.mk hone
 clear hone hx1 hs ks hcm kc
 go_enter Try.func55, Try.ntmps55
 go_wp2
 go_loopg [5, 8] l0.length (fun gg _ s8 wr => ∃ kk : Nat, kk ≤ l0.length ∧ l0.length - kk ≤ gg ∧ s8 = .int .i64 kk ∧ Aside0 (Below w.heap.size w wr) ∧ Aside0 (impl_GoodProgram_any.any (impl_GoodProgram_any.p k a1 a2 ls lc) (l0.drop kk) = some r))
 case atStart => exact ⟨0, Nat.zero_le _, by omega, rfl, ⟨Below.refl _ _⟩, HH⟩
 case round =>
  clear HH
  obtain ⟨kk, hkk, hg, rfl, HB, HA⟩ := hrel
  by_cases hlt : kk < l0.length
  ·have hltz : (kk : Int) < (l0.length : Int) := by omega
   have h1 := HA.out
   rw [List.drop_eq_getElem_cons hlt] at h1
   unfold impl_GoodProgram_any.any at h1
   obtain ⟨ad, Aq0, cq0, Aq1, cq1, e, hcell0, hcell1, lq0, hq0, lq1, hq1⟩ := at_T54 HR.out (kk : Int) (by omega) hltz
   cases e
   replace hcell0 := (HB.out.cell (World.block_lt_of_cell? w _ hcell0)).trans hcell0
   replace hq0 := Kd.C_below hq0 HB.out
   replace hcell1 := (HB.out.cell (World.block_lt_of_cell? w _ hcell1)).trans hcell1
   replace hq1 := Kd.C_below hq1 HB.out
   have hget : rd_T54 l0 (kk : Int) = l0[kk] := by unfold rd_T54; rw [Int.toNat_natCast, List.getD_eq_getElem?_getD, List.getElem?_eq_getElem hlt]; rfl
   obtain ⟨y, hy⟩ : ∃ y, rd_T54 l0 (kk : Int) = y := ⟨_, rfl⟩
   rw [hy] at hcell0 hcell1 hget lq0 hq0 lq1 hq1
   clear hy
   rw [Int.toNat_natCast] at hcell0 hcell1
   have HQ0 := Aside0.mk hq0
   have LQ0 := Aside0.mk lq0
   clear hq0 lq0
   have HQ1 := Aside0.mk hq1
   have LQ1 := Aside0.mk lq1
   clear hq1 lq1
   rw [← hget] at h1
   clear hget
   obtain ⟨q, hq, h2⟩ := Option.bind_eq_some_iff.mp h1
   clear h1
   have HQ := Aside0.mk hq
   clear hq
   cases q with
   | true =>
    have h3 : true = r := by simpa using h2
    have H3 := Aside0.mk h3
    clear h2 h3
    go_wp2_with (go_at_call 34; refine ((HO.out y _ HB.out _ _ _ _ HQ0.out LQ0.out HQ1.out LQ1.out _ HQ.out)).mono ?_; rintro e w' ⟨rfl, hb⟩; have HB2 := Aside0.mk (below_step HB.out hb); clear hb)
    go_ret
    exact ⟨⟨_, rfl, by rw [← H3.out]; exact decide_eq_true (by omega)⟩, HB2.out⟩
   | false =>
    have h3 : impl_GoodProgram_any.any (impl_GoodProgram_any.p k a1 a2 ls lc) (l0.drop (kk + 1)) = some r := by simpa using h2
    have H3 := Aside0.mk h3
    clear h2 h3
    go_wp2_with (go_at_call 34; refine ((HO.out y _ HB.out _ _ _ _ HQ0.out LQ0.out HQ1.out LQ1.out _ HQ.out)).mono ?_; rintro e w' ⟨rfl, hb⟩; have HB2 := Aside0.mk (below_step HB.out hb); clear hb)
    go_roundg (l0.length - (kk + 1))
    case measure => omega
    case rel => exact ⟨kk + 1, by omega, by omega, by go_num, HB2, H3⟩
  ·have hltz : ¬ (kk : Int) < (l0.length : Int) := by omega
   obtain rfl : kk = l0.length := by omega
   go_wp2
   go_ret
   exact ⟨⟨_, rfl, by have h4 := HA.out; rw [List.drop_length] at h4; unfold impl_GoodProgram_any.any at h4; rw [← Option.some.inj h4]; rfl⟩, HB.out⟩
theorem impl_GoodProgram_any.calls (k : Nat) (A0 : Option Addr) (c0 : Nat) (l0 : List S54) (B1 : Nat) (a1 a2 : Int) (As : Option Addr) (cs : Nat) (ls : List S82) (Ac : Option Addr) (cc : Nat) (lc : List S54) (r : Bool) (w : World) (hr0 : Kd.C k54 w A0 l0.length l0) (hc0 : l0.length ≤ c0) (hx1 : w.heap[B1]? = some (.cells #[.int .i64 a1, .int .i64 a2, .slice As ls.length cs, .slice Ac lc.length cc] 31 (0, 0))) (hs : Kd.C k82 w As ls.length ls) (ks : ls.length ≤ cs) (hcm : Kd.C k54 w Ac lc.length lc) (kc : lc.length ≤ cc) (h : impl_GoodProgram_any.f k l0 a1 a2 ls lc = some r) :
  Calls Try.prog 33 #[.slice A0 l0.length c0, .func (.func 34) #[] #[.pointer (some ⟨B1, 0, none⟩)]] w
   fun e w' => e = .returned (.bool r) ∧ Below w.heap.size w w' := by
 have hI := impl_GoodProgram_any.index k A0 c0 l0 B1 a1 a2 As cs ls Ac cc lc r w hr0 hc0 hx1 hs ks hcm kc h
 clear hr0 h hx1 hs ks hcm kc
 go_enter Try.func33, Try.ntmps33
 go_wp2_with (go_at_call 55; refine hI.mono ?_; rintro e w' ⟨⟨n, rfl, hn⟩, hb⟩; have HN := Aside0.mk hn; have HB := Aside0.mk hb; clear hn hb)
 go_ret
 exact ⟨by have h1 := HN.out; simp only [ge_iff_le] at h1; first | rfl | (rw [h1]; rfl) | rw [h1], HB.out⟩
/-- What a block holds is held on. -/
theorem impl_GoodProgram.carry {W W' : World} {g : Nat} {b : _} (hb : Below W.heap.size W W') (h : W.heap[g]? = some b) : W'.heap[g]? = some b := (hb.block _ (blk_lt h)).trans h
def impl_GoodProgram.f (k : Nat) (a0_0 : Int) (a0_1 : Int) (l0_2 : List (S82)) (l0_3 : List (S54)) : Option (Bool) := (impl_isWide.f a0_0).bind fun b0 => if b0 = true then ((impl_isVars.f a0_1).bind fun b1 => if b1 = true then ((impl_Program_isCondition.f k a0_0 a0_1 l0_2 l0_3 l0_2).bind fun b2 => if b2 = true then (if (l0_3.length : Int) < 1 then some false else if (l0_3.length : Int) > 6 then some false else (impl_GoodProgram_any.f k l0_3 a0_0 a0_1 l0_2 l0_3).bind fun b3 => some (!b3)) else some false) else some false) else some false
theorem impl_GoodProgram.mono : ∀ a0 a1 a2 a3 k, LeO (impl_GoodProgram.f k a0 a1 a2 a3) (impl_GoodProgram.f (k + 1) a0 a1 a2 a3) := by
 intro a0 a1 a2 a3 k
 unfold impl_GoodProgram.f
 refine LeO.bind (LeO.refl _) (fun _ => LeO.ite (LeO.bind (LeO.refl _) (fun _ => LeO.ite (LeO.bind (impl_Program_isCondition.mono _ _ _ _ _ _) (fun _ => LeO.ite (LeO.ite (LeO.refl _) (LeO.ite (LeO.refl _) (LeO.bind (impl_GoodProgram_any.mono _ _ _ _ _ _) (fun _ => LeO.refl _)))) (LeO.refl _))) (LeO.refl _))) (LeO.refl _))
set_option maxHeartbeats 8000000 in
theorem impl_GoodProgram.calls (k : Nat) (a0_0 : Int) (a0_1 : Int) (A0_2 : Option Addr) (c0_2 : Nat) (l0_2 : List (S82)) (A0_3 : Option Addr) (c0_3 : Nat) (l0_3 : List (S54)) (r : Bool) (w : World) (hr0_2 : Kd.C k82 w A0_2 l0_2.length l0_2) (hc0_2 : l0_2.length ≤ c0_2) (hr0_3 : Kd.C k54 w A0_3 l0_3.length l0_3) (hc0_3 : l0_3.length ≤ c0_3) (h : impl_GoodProgram.f k a0_0 a0_1 l0_2 l0_3 = some r) :
  Calls Try.prog 10 #[.agg #[.int .i64 a0_0, .int .i64 a0_1, .slice A0_2 l0_2.length c0_2, .slice A0_3 l0_3.length c0_3]] w fun e w' => e = .returned (.bool r) ∧ Below w.heap.size w w' := by
 have HR2 := Aside0.mk hr0_2
 have HC2 := Aside0.mk hc0_2
 have HR3 := Aside0.mk hr0_3
 have HC3 := Aside0.mk hc0_3
 clear hr0_2 hc0_2 hr0_3 hc0_3
 unfold impl_GoodProgram.f at h
 obtain ⟨b0, hg0, h⟩ := Option.bind_eq_some_iff.mp h
 have HG0 := Aside0.mk hg0
 clear hg0
 cases b0 with
 | false =>
  obtain rfl : false = r := by simpa using h
  clear h
  go_enter Try.func10, Try.ntmps10
  go_wp2_with (first | ((with_reducible refine gate_dst (N := 1) rfl ?_); refine box_event ?hg (N := 1) ?hd (cs := #[.int .i64 a0_0, .int .i64 a0_1, .slice A0_2 l0_2.length c0_2, .slice A0_3 l0_3.length c0_3]) (t := 31) ?hr ?_; (case hd => rfl); (case hg => rfl); (case hr => first | (go_simp; done) | (go_simp; rfl)); intro gb hgb w2 hbox hb; have HBK := Aside0.mk hbox; have HB := Aside0.mk hb; have hz0 : w2.cell? ⟨gb, 0, none⟩ = some (.int .i64 a0_0) := (blk_cell hbox 0).trans rfl; have hz1 : w2.cell? ⟨gb, 1, none⟩ = some (.int .i64 a0_1) := (blk_cell hbox 1).trans rfl; have hz2 : w2.cell? ⟨gb, 2, none⟩ = some (.slice A0_2 l0_2.length c0_2) := (blk_cell hbox 2).trans rfl; have hz3 : w2.cell? ⟨gb, 3, none⟩ = some (.slice A0_3 l0_3.length c0_3) := (blk_cell hbox 3).trans rfl; clear hbox hb hgb) | (go_at_call 30; (with_reducible refine (impl_isWide.calls a0_0 false _ HG0.out).mono ?_); rintro e w' ⟨rfl, ⟨nd, rfl⟩⟩))
  go_ret
  exact ⟨rfl, (qB)⟩
 | true =>
  rw [if_pos rfl] at h
  obtain ⟨b1, hg1, h⟩ := Option.bind_eq_some_iff.mp h
  have HG1 := Aside0.mk hg1
  clear hg1
  cases b1 with
  | false =>
   obtain rfl : false = r := by simpa using h
   clear h
   go_enter Try.func10, Try.ntmps10
   go_wp2_with (first | ((with_reducible refine gate_dst (N := 1) rfl ?_); refine box_event ?hg (N := 1) ?hd (cs := #[.int .i64 a0_0, .int .i64 a0_1, .slice A0_2 l0_2.length c0_2, .slice A0_3 l0_3.length c0_3]) (t := 31) ?hr ?_; (case hd => rfl); (case hg => rfl); (case hr => first | (go_simp; done) | (go_simp; rfl)); intro gb hgb w2 hbox hb; have HBK := Aside0.mk hbox; have HB := Aside0.mk hb; have hz0 : w2.cell? ⟨gb, 0, none⟩ = some (.int .i64 a0_0) := (blk_cell hbox 0).trans rfl; have hz1 : w2.cell? ⟨gb, 1, none⟩ = some (.int .i64 a0_1) := (blk_cell hbox 1).trans rfl; have hz2 : w2.cell? ⟨gb, 2, none⟩ = some (.slice A0_2 l0_2.length c0_2) := (blk_cell hbox 2).trans rfl; have hz3 : w2.cell? ⟨gb, 3, none⟩ = some (.slice A0_3 l0_3.length c0_3) := (blk_cell hbox 3).trans rfl; clear hbox hb hgb) | (go_at_call 30; (with_reducible refine (impl_isWide.calls a0_0 true _ HG0.out).mono ?_); rintro e w' ⟨rfl, ⟨nd, rfl⟩⟩) | (go_at_call 31; (with_reducible refine (impl_isVars.calls a0_1 false _ HG1.out).mono ?_); rintro e w' ⟨rfl, ⟨nd, rfl⟩⟩))
   go_ret
   exact ⟨rfl, (qB)⟩
  | true =>
   rw [if_pos rfl] at h
   obtain ⟨b2, hg2, h⟩ := Option.bind_eq_some_iff.mp h
   have HG2 := Aside0.mk hg2
   clear hg2
   cases b2 with
   | false =>
    obtain rfl : false = r := by simpa using h
    clear h
    go_enter Try.func10, Try.ntmps10
    go_wp2_with (first | ((with_reducible refine gate_dst (N := 1) rfl ?_); refine box_event ?hg (N := 1) ?hd (cs := #[.int .i64 a0_0, .int .i64 a0_1, .slice A0_2 l0_2.length c0_2, .slice A0_3 l0_3.length c0_3]) (t := 31) ?hr ?_; (case hd => rfl); (case hg => rfl); (case hr => first | (go_simp; done) | (go_simp; rfl)); intro gb hgb w2 hbox hb; have HBK := Aside0.mk hbox; have HB := Aside0.mk hb; have hz0 : w2.cell? ⟨gb, 0, none⟩ = some (.int .i64 a0_0) := (blk_cell hbox 0).trans rfl; have hz1 : w2.cell? ⟨gb, 1, none⟩ = some (.int .i64 a0_1) := (blk_cell hbox 1).trans rfl; have hz2 : w2.cell? ⟨gb, 2, none⟩ = some (.slice A0_2 l0_2.length c0_2) := (blk_cell hbox 2).trans rfl; have hz3 : w2.cell? ⟨gb, 3, none⟩ = some (.slice A0_3 l0_3.length c0_3) := (blk_cell hbox 3).trans rfl; clear hbox hb hgb) | (go_at_call 30; (with_reducible refine (impl_isWide.calls a0_0 true _ HG0.out).mono ?_); rintro e w' ⟨rfl, ⟨nd, rfl⟩⟩) | (go_at_call 31; (with_reducible refine (impl_isVars.calls a0_1 true _ HG1.out).mono ?_); rintro e w' ⟨rfl, ⟨nd, rfl⟩⟩) | (go_at_call 32; (with_reducible refine (impl_Program_isCondition.calls k a0_0 a0_1 _ _ l0_2 _ _ l0_3 _ _ l0_2 false _ ?side1 ?side2 ?side3 ?side4 ?side5 ?side6 HG2.out).mono ?_); (case side1 => exact qC (Kd.C_below HR2.out HB.out)); (case side2 => exact HC2.out); (case side3 => exact qC (Kd.C_below HR3.out HB.out)); (case side4 => exact HC3.out); (case side5 => exact qC (Kd.C_below HR2.out HB.out)); (case side6 => exact HC2.out); rintro e w3 ⟨rfl, hb⟩; have hk := impl_GoodProgram.carry hb (g := gb) (b := .cells #[.int .i64 a0_0, .int .i64 a0_1, .slice A0_2 l0_2.length c0_2, .slice A0_3 l0_3.length c0_3] 31 (0, 0)) (qK HBK.out); have HB2 := Aside0.mk (below_step (qB) hb); have hy0 : w3.cell? ⟨gb, 0, none⟩ = some (.int .i64 a0_0) := (blk_cell hk 0).trans rfl; have hy1 : w3.cell? ⟨gb, 1, none⟩ = some (.int .i64 a0_1) := (blk_cell hk 1).trans rfl; have hy2 : w3.cell? ⟨gb, 2, none⟩ = some (.slice A0_2 l0_2.length c0_2) := (blk_cell hk 2).trans rfl; have hy3 : w3.cell? ⟨gb, 3, none⟩ = some (.slice A0_3 l0_3.length c0_3) := (blk_cell hk 3).trans rfl; have HBK3 := Aside0.mk hk; clear hb hk))
    go_ret
    exact ⟨rfl, (by repeat (first | (with_reducible first | exact HB2.out | apply below_alloc | apply pw_below_drewN | apply below_drew1) | exact HB2.out))⟩
   | true =>
    rw [if_pos rfl] at h
    by_cases t0 : (l0_3.length : Int) < 1
    ·rw [if_pos t0] at h
     obtain rfl := Option.some.inj h
     have e0 : decide ((l0_3.length : Int) < 1) = true := decide_eq_true t0
     clear h t0
     go_enter Try.func10, Try.ntmps10
     go_wp2_with (first | ((with_reducible refine gate_dst (N := 1) rfl ?_); refine box_event ?hg (N := 1) ?hd (cs := #[.int .i64 a0_0, .int .i64 a0_1, .slice A0_2 l0_2.length c0_2, .slice A0_3 l0_3.length c0_3]) (t := 31) ?hr ?_; (case hd => rfl); (case hg => rfl); (case hr => first | (go_simp; done) | (go_simp; rfl)); intro gb hgb w2 hbox hb; have HBK := Aside0.mk hbox; have HB := Aside0.mk hb; have hz0 : w2.cell? ⟨gb, 0, none⟩ = some (.int .i64 a0_0) := (blk_cell hbox 0).trans rfl; have hz1 : w2.cell? ⟨gb, 1, none⟩ = some (.int .i64 a0_1) := (blk_cell hbox 1).trans rfl; have hz2 : w2.cell? ⟨gb, 2, none⟩ = some (.slice A0_2 l0_2.length c0_2) := (blk_cell hbox 2).trans rfl; have hz3 : w2.cell? ⟨gb, 3, none⟩ = some (.slice A0_3 l0_3.length c0_3) := (blk_cell hbox 3).trans rfl; clear hbox hb hgb) | (go_at_call 30; (with_reducible refine (impl_isWide.calls a0_0 true _ HG0.out).mono ?_); rintro e w' ⟨rfl, ⟨nd, rfl⟩⟩) | (go_at_call 31; (with_reducible refine (impl_isVars.calls a0_1 true _ HG1.out).mono ?_); rintro e w' ⟨rfl, ⟨nd, rfl⟩⟩) | (go_at_call 32; (with_reducible refine (impl_Program_isCondition.calls k a0_0 a0_1 _ _ l0_2 _ _ l0_3 _ _ l0_2 true _ ?side1 ?side2 ?side3 ?side4 ?side5 ?side6 HG2.out).mono ?_); (case side1 => exact qC (Kd.C_below HR2.out HB.out)); (case side2 => exact HC2.out); (case side3 => exact qC (Kd.C_below HR3.out HB.out)); (case side4 => exact HC3.out); (case side5 => exact qC (Kd.C_below HR2.out HB.out)); (case side6 => exact HC2.out); rintro e w3 ⟨rfl, hb⟩; have hk := impl_GoodProgram.carry hb (g := gb) (b := .cells #[.int .i64 a0_0, .int .i64 a0_1, .slice A0_2 l0_2.length c0_2, .slice A0_3 l0_3.length c0_3] 31 (0, 0)) (qK HBK.out); have HB2 := Aside0.mk (below_step (qB) hb); have hy0 : w3.cell? ⟨gb, 0, none⟩ = some (.int .i64 a0_0) := (blk_cell hk 0).trans rfl; have hy1 : w3.cell? ⟨gb, 1, none⟩ = some (.int .i64 a0_1) := (blk_cell hk 1).trans rfl; have hy2 : w3.cell? ⟨gb, 2, none⟩ = some (.slice A0_2 l0_2.length c0_2) := (blk_cell hk 2).trans rfl; have hy3 : w3.cell? ⟨gb, 3, none⟩ = some (.slice A0_3 l0_3.length c0_3) := (blk_cell hk 3).trans rfl; have HBK3 := Aside0.mk hk; clear hb hk))
     go_ret
     exact ⟨rfl, (by repeat (first | (with_reducible first | exact HB2.out | apply below_alloc | apply pw_below_drewN | apply below_drew1) | exact HB2.out))⟩
    rw [if_neg t0] at h
    have e0 : decide ((l0_3.length : Int) < 1) = false := decide_eq_false t0
    by_cases t1 : (l0_3.length : Int) > 6
    ·rw [if_pos t1] at h
     obtain rfl := Option.some.inj h
     have e1 : decide ((l0_3.length : Int) > 6) = true := decide_eq_true t1
     clear h t0 t1
     go_enter Try.func10, Try.ntmps10
     go_wp2_with (first | ((with_reducible refine gate_dst (N := 1) rfl ?_); refine box_event ?hg (N := 1) ?hd (cs := #[.int .i64 a0_0, .int .i64 a0_1, .slice A0_2 l0_2.length c0_2, .slice A0_3 l0_3.length c0_3]) (t := 31) ?hr ?_; (case hd => rfl); (case hg => rfl); (case hr => first | (go_simp; done) | (go_simp; rfl)); intro gb hgb w2 hbox hb; have HBK := Aside0.mk hbox; have HB := Aside0.mk hb; have hz0 : w2.cell? ⟨gb, 0, none⟩ = some (.int .i64 a0_0) := (blk_cell hbox 0).trans rfl; have hz1 : w2.cell? ⟨gb, 1, none⟩ = some (.int .i64 a0_1) := (blk_cell hbox 1).trans rfl; have hz2 : w2.cell? ⟨gb, 2, none⟩ = some (.slice A0_2 l0_2.length c0_2) := (blk_cell hbox 2).trans rfl; have hz3 : w2.cell? ⟨gb, 3, none⟩ = some (.slice A0_3 l0_3.length c0_3) := (blk_cell hbox 3).trans rfl; clear hbox hb hgb) | (go_at_call 30; (with_reducible refine (impl_isWide.calls a0_0 true _ HG0.out).mono ?_); rintro e w' ⟨rfl, ⟨nd, rfl⟩⟩) | (go_at_call 31; (with_reducible refine (impl_isVars.calls a0_1 true _ HG1.out).mono ?_); rintro e w' ⟨rfl, ⟨nd, rfl⟩⟩) | (go_at_call 32; (with_reducible refine (impl_Program_isCondition.calls k a0_0 a0_1 _ _ l0_2 _ _ l0_3 _ _ l0_2 true _ ?side1 ?side2 ?side3 ?side4 ?side5 ?side6 HG2.out).mono ?_); (case side1 => exact qC (Kd.C_below HR2.out HB.out)); (case side2 => exact HC2.out); (case side3 => exact qC (Kd.C_below HR3.out HB.out)); (case side4 => exact HC3.out); (case side5 => exact qC (Kd.C_below HR2.out HB.out)); (case side6 => exact HC2.out); rintro e w3 ⟨rfl, hb⟩; have hk := impl_GoodProgram.carry hb (g := gb) (b := .cells #[.int .i64 a0_0, .int .i64 a0_1, .slice A0_2 l0_2.length c0_2, .slice A0_3 l0_3.length c0_3] 31 (0, 0)) (qK HBK.out); have HB2 := Aside0.mk (below_step (qB) hb); have hy0 : w3.cell? ⟨gb, 0, none⟩ = some (.int .i64 a0_0) := (blk_cell hk 0).trans rfl; have hy1 : w3.cell? ⟨gb, 1, none⟩ = some (.int .i64 a0_1) := (blk_cell hk 1).trans rfl; have hy2 : w3.cell? ⟨gb, 2, none⟩ = some (.slice A0_2 l0_2.length c0_2) := (blk_cell hk 2).trans rfl; have hy3 : w3.cell? ⟨gb, 3, none⟩ = some (.slice A0_3 l0_3.length c0_3) := (blk_cell hk 3).trans rfl; have HBK3 := Aside0.mk hk; clear hb hk))
     go_ret
     exact ⟨rfl, (by repeat (first | (with_reducible first | exact HB2.out | apply below_alloc | apply pw_below_drewN | apply below_drew1) | exact HB2.out))⟩
    rw [if_neg t1] at h
    have e1 : decide ((l0_3.length : Int) > 6) = false := decide_eq_false t1
    obtain ⟨g, hg3, h⟩ := Option.bind_eq_some_iff.mp h
    have HG3 := Aside0.mk hg3
    obtain rfl : (!g) = r := Option.some.inj h
    clear hg3 h t0 t1
    go_enter Try.func10, Try.ntmps10
    go_wp2_with (first | ((with_reducible refine gate_dst (N := 1) rfl ?_); refine box_event ?hg (N := 1) ?hd (cs := #[.int .i64 a0_0, .int .i64 a0_1, .slice A0_2 l0_2.length c0_2, .slice A0_3 l0_3.length c0_3]) (t := 31) ?hr ?_; (case hd => rfl); (case hg => rfl); (case hr => first | (go_simp; done) | (go_simp; rfl)); intro gb hgb w2 hbox hb; have HBK := Aside0.mk hbox; have HB := Aside0.mk hb; have hz0 : w2.cell? ⟨gb, 0, none⟩ = some (.int .i64 a0_0) := (blk_cell hbox 0).trans rfl; have hz1 : w2.cell? ⟨gb, 1, none⟩ = some (.int .i64 a0_1) := (blk_cell hbox 1).trans rfl; have hz2 : w2.cell? ⟨gb, 2, none⟩ = some (.slice A0_2 l0_2.length c0_2) := (blk_cell hbox 2).trans rfl; have hz3 : w2.cell? ⟨gb, 3, none⟩ = some (.slice A0_3 l0_3.length c0_3) := (blk_cell hbox 3).trans rfl; clear hbox hb hgb) | (go_at_call 30; (with_reducible refine (impl_isWide.calls a0_0 true _ HG0.out).mono ?_); rintro e w' ⟨rfl, ⟨nd, rfl⟩⟩) | (go_at_call 31; (with_reducible refine (impl_isVars.calls a0_1 true _ HG1.out).mono ?_); rintro e w' ⟨rfl, ⟨nd, rfl⟩⟩) | (go_at_call 32; (with_reducible refine (impl_Program_isCondition.calls k a0_0 a0_1 _ _ l0_2 _ _ l0_3 _ _ l0_2 true _ ?side1 ?side2 ?side3 ?side4 ?side5 ?side6 HG2.out).mono ?_); (case side1 => exact qC (Kd.C_below HR2.out HB.out)); (case side2 => exact HC2.out); (case side3 => exact qC (Kd.C_below HR3.out HB.out)); (case side4 => exact HC3.out); (case side5 => exact qC (Kd.C_below HR2.out HB.out)); (case side6 => exact HC2.out); rintro e w3 ⟨rfl, hb⟩; have hk := impl_GoodProgram.carry hb (g := gb) (b := .cells #[.int .i64 a0_0, .int .i64 a0_1, .slice A0_2 l0_2.length c0_2, .slice A0_3 l0_3.length c0_3] 31 (0, 0)) (qK HBK.out); have HB2 := Aside0.mk (below_step (qB) hb); have hy0 : w3.cell? ⟨gb, 0, none⟩ = some (.int .i64 a0_0) := (blk_cell hk 0).trans rfl; have hy1 : w3.cell? ⟨gb, 1, none⟩ = some (.int .i64 a0_1) := (blk_cell hk 1).trans rfl; have hy2 : w3.cell? ⟨gb, 2, none⟩ = some (.slice A0_2 l0_2.length c0_2) := (blk_cell hk 2).trans rfl; have hy3 : w3.cell? ⟨gb, 3, none⟩ = some (.slice A0_3 l0_3.length c0_3) := (blk_cell hk 3).trans rfl; have HBK3 := Aside0.mk hk; clear hb hk) | (go_at_call 33; refine (impl_GoodProgram_any.calls k A0_3 c0_3 l0_3 gb a0_0 a0_1 A0_2 c0_2 l0_2 A0_3 c0_3 l0_3 g _ ?side1 HC3.out ?side3 ?side4 HC2.out ?side6 HC3.out HG3.out).mono ?_; (case side1 => exact qC (Kd.C_below HR3.out HB2.out)); (case side3 => (with_reducible repeat (first | refine blk_drewN ?_ _ | refine blk_drew ?_ | refine blk_alloc ?_ _)); exact HBK3.out); (case side4 => exact qC (Kd.C_below HR2.out HB2.out)); (case side6 => exact qC (Kd.C_below HR3.out HB2.out)); rintro e w4 ⟨rfl, hb⟩; have HB3 := Aside0.mk (below_step (by repeat (first | (with_reducible first | exact HB2.out | apply below_alloc | apply pw_below_drewN | apply below_drew1) | exact HB2.out)) hb); clear hb))
    go_ret
    exact ⟨rfl, (by repeat (first | (with_reducible first | exact HB3.out | apply below_alloc | apply pw_below_drewN | apply below_drew1) | exact HB3.out))⟩

end Go.Proofs.Ytkebpfpkohehgaa.X
