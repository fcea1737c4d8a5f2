/- Go functions as Lean functions, each with the proof that its call comes to just its answer. Conditions: the arguments are of their kinds. -/
import Derived.Test.YtgdmdaalmoioeaaX0
namespace Go.Proofs.Ytgdmdaalmoioeaa.X
open Go.RowKit Go.Proofs.YtgdmdaalmoioeaaW.PrintWords Go.Proofs.YtgdmdaalmoioeaaW.PrintLast Go.Proofs.YtgdmdaalmoioeaaW.PrintMore
attribute [local go_sem] max2_int min2_int max_two min_two max_three min_three max_four min_four   -- for this text's walks alone
set_option linter.unusedVariables false
set_option linter.unusedSimpArgs false

-- NOT PRINTED: function 50 (slices_IndexFunc__int)

-- NOT PRINTED: function 42 (slices_ContainsFunc__int)

/-! ### impl_isLiteral: function 52 -/
def impl_isLiteral.f (a0 : Int) (a1 : Int) : Option (Bool) := if a0 = 0 then (some false) else (if a0 ≥ (wrap64 (-a1)) then (some (decide (a0 ≤ a1))) else (some false))
set_option maxHeartbeats 8000000 in
set_option maxRecDepth 100000 in
theorem impl_isLiteral.calls (a0 : Int) (a1 : Int) (r : Bool) (w : World) (h : impl_isLiteral.f a0 a1 = some r) :
  Calls Try.prog 52 #[.int .i64 a0, .int .i64 a1] w fun e w' => e = .returned (.bool r) ∧ Drawn0 w w' := by
 have H : (if a0 = 0 then (some false) else (if a0 ≥ (wrap64 (-a1)) then (some (decide (a0 ≤ a1))) else (some false))) = some r := h
 clear h
 by_cases c3 : a0 = 0
 ·rw [if_pos c3] at H
  have c3b0 : (a0 == 0) = true := beq_iff_eq.mpr c3
  have c3b1 : (a0 != 0) = false := bne_eq_false_iff_eq.mpr c3
  clear c3
  obtain rfl := Option.some.inj H
  go_enter Try.func52, Try.ntmps52
  go_wp2
  go_ret
  exact ⟨by first | rfl | (simp; done) | (simp [*]; done), by repeat (first | exact Drawn0.refl _ | apply Drawn0.step)⟩
 ·rw [if_neg c3] at H
  have c3b0 : (a0 == 0) = false := beq_eq_false_iff_ne.mpr c3
  have c3b1 : (a0 != 0) = true := bne_iff_ne.mpr c3
  by_cases c4 : a0 ≥ (wrap64 (-a1))
  ·rw [if_pos c4] at H
   have c4b0 : decide ((wrap64 (-a1)) ≤ a0) = true := decide_eq_true c4
   clear c4
   obtain rfl := Option.some.inj H
   go_enter Try.func52, Try.ntmps52
   go_wp2
   go_ret
   exact ⟨by first | rfl | (simp; done) | (simp [*]; done), by repeat (first | exact Drawn0.refl _ | apply Drawn0.step)⟩
  ·rw [if_neg c4] at H
   have c4b0 : decide ((wrap64 (-a1)) ≤ a0) = false := decide_eq_false c4
   clear c4
   obtain rfl := Option.some.inj H
   go_enter Try.func52, Try.ntmps52
   go_wp2
   go_ret
   exact ⟨by first | rfl | (simp; done) | (simp [*]; done), by repeat (first | exact Drawn0.refl _ | apply Drawn0.step)⟩

-- NOT PRINTED: function 51 (impl_isClause_1)


-- HAND
/-! ### impl_isClause_any: the contract of function 48 at function 51 -/
/-- Is there an element of which p says yes? -/
def impl_isClause_any.any {α : Type} (p : α → Option Bool) : List α → Option Bool
 | [] => some false
 | x :: t => (p x).bind fun b => if b = true then some true else impl_isClause_any.any p t
def impl_isClause_any.p (a1 : Int) (x : Int) : Option Bool := (impl_isLiteral.f x a1).bind fun b => some (!b)
def impl_isClause_any.f (l : List Int) (a1 : Int) : Option (Bool) := impl_isClause_any.any (impl_isClause_any.p a1) l
theorem impl_isClause_any.pred (B1 : Nat) (a1 : Int) (x : Int) (W : World) (b : Bool) (hx1 : W.heap[B1]? = some (.cells #[.int .i64 a1] 3 (0, 0))) (h : impl_isClause_any.p a1 x = some b) :
  Calls Try.prog 51 #[.int .i64 x, .pointer (some ⟨B1, 0, none⟩)] W fun e w' => e = .returned (.bool b) ∧ Below W.heap.size W w' := by
 have hc : W.cell? ⟨B1, 0, none⟩ = some (.int .i64 a1) := (blk_cell hx1 0).trans rfl
 obtain ⟨g, hg, h2⟩ := Option.bind_eq_some_iff.mp h
 obtain rfl : (!g) = b := Option.some.inj h2
 have HG := Aside0.mk hg
 clear hg h h2 hx1
 go_enter Try.func51, Try.ntmps51
 go_wp2_with (go_at_call 52; (with_reducible refine (impl_isLiteral.calls _ _ g _ HG.out).mono ?_); rintro e w' ⟨rfl, hd⟩; have HD := Aside0.mk hd; clear hd)
 go_ret
 exact ⟨rfl, by first | exact HD.out | exact HD.out.below | (obtain rfl := HD.out; exact Below.refl _ _)⟩
set_option maxHeartbeats 4000000 in
theorem impl_isClause_any.index (A0 : Option Addr) (c0 : Nat) (l0 : List Int) (B1 : Nat) (a1 : Int) (r : Bool) (w : World) (hr0 : Kd.C (Kd.int .i64) w A0 l0.length l0) (hc0 : l0.length ≤ c0) (hx1 : w.heap[B1]? = some (.cells #[.int .i64 a1] 3 (0, 0))) (h : impl_isClause_any.any (impl_isClause_any.p a1) l0 = some r) :
  Calls Try.prog 53 #[.slice A0 l0.length c0, .func (.func 51) #[] #[.pointer (some ⟨B1, 0, none⟩)]] w
   fun e w' => (∃ n : Int, e = .returned (.int .i64 n) ∧ decide (n ≥ 0) = r) ∧ Below w.heap.size w w' := by
 have hm := hr0.2.1
 have HR := Aside0.mk hr0
 have HH := Aside0.mk h
 clear hr0 h
 have hone : ∀ (x : Int) (W : World), Below w.heap.size w W → ∀ b, (impl_isClause_any.p a1) x = some b → Calls Try.prog 51 #[.int .i64 x, .pointer (some ⟨B1, 0, none⟩)] W fun e w' => e = .returned (.bool b) ∧ Below W.heap.size W w' :=
  fun x W hb b h => impl_isClause_any.pred B1 a1 x W b ((hb.block _ (blk_lt hx1)).trans hx1) h
 have HO := Aside0.mk hone
 clear hone hx1
 go_enter Try.func53, Try.ntmps53
 go_wp2
 go_loopg [5, 8] l0.length (fun gg _ s8 wr => ∃ kk : Nat, kk ≤ l0.length ∧ l0.length - kk ≤ gg ∧ s8 = .int .i64 kk ∧ Aside0 (Below w.heap.size w wr) ∧ Aside0 (impl_isClause_any.any (impl_isClause_any.p a1) (l0.drop kk) = some r))
 case atStart => exact ⟨0, Nat.zero_le _, by omega, rfl, ⟨Below.refl _ _⟩, HH⟩
 case round =>
  clear HH
  obtain ⟨kk, hkk, hg, rfl, HB, HA⟩ := hrel
  by_cases hlt : kk < l0.length
  ·have hltz : (kk : Int) < (l0.length : Int) := by omega
   have h1 := HA.out
   rw [List.drop_eq_getElem_cons hlt] at h1
   unfold impl_isClause_any.any at h1
   obtain ⟨ad, e, hcell⟩ := Kd.at_int HR.out (kk : Int) (by omega) hltz
   cases e
   replace hcell := (HB.out.cell (World.block_lt_of_cell? w _ hcell)).trans hcell
   obtain ⟨y, hy⟩ : ∃ y, rd l0 (kk : Int) = y := ⟨_, rfl⟩
   have hget : rd l0 (kk : Int) = l0[kk] := by unfold rd; rw [Int.toNat_natCast, List.getD_eq_getElem?_getD, List.getElem?_eq_getElem hlt]; rfl
   rw [hy] at hcell hget
   clear hy
   rw [Int.toNat_natCast] at hcell
   rw [← hget] at h1
   clear hget
   obtain ⟨q, hq, h2⟩ := Option.bind_eq_some_iff.mp h1
   clear h1
   have HQ := Aside0.mk hq
   clear hq
   cases q with
   | true =>
    have h3 : true = r := by simpa using h2
    have H3 := Aside0.mk h3
    clear h2 h3
    go_wp2_with (go_at_call 51; refine ((HO.out y _ HB.out _ HQ.out)).mono ?_; rintro e w' ⟨rfl, hb⟩; have HB2 := Aside0.mk (below_step HB.out hb); clear hb)
    go_ret
    exact ⟨⟨_, rfl, by rw [← H3.out]; exact decide_eq_true (by omega)⟩, HB2.out⟩
   | false =>
    have h3 : impl_isClause_any.any (impl_isClause_any.p a1) (l0.drop (kk + 1)) = some r := by simpa using h2
    have H3 := Aside0.mk h3
    clear h2 h3
    go_wp2_with (go_at_call 51; refine ((HO.out y _ HB.out _ HQ.out)).mono ?_; rintro e w' ⟨rfl, hb⟩; have HB2 := Aside0.mk (below_step HB.out hb); clear hb)
    go_roundg (l0.length - (kk + 1))
    case measure => omega
    case rel => exact ⟨kk + 1, by omega, by omega, by go_num, HB2, H3⟩
  ·have hltz : ¬ (kk : Int) < (l0.length : Int) := by omega
   obtain rfl : kk = l0.length := by omega
   go_wp2
   go_ret
   exact ⟨⟨_, rfl, by have h4 := HA.out; rw [List.drop_length] at h4; unfold impl_isClause_any.any at h4; rw [← Option.some.inj h4]; rfl⟩, HB.out⟩
theorem impl_isClause_any.calls (A0 : Option Addr) (c0 : Nat) (l0 : List Int) (B1 : Nat) (a1 : Int) (r : Bool) (w : World) (hr0 : Kd.C (Kd.int .i64) w A0 l0.length l0) (hc0 : l0.length ≤ c0) (hx1 : w.heap[B1]? = some (.cells #[.int .i64 a1] 3 (0, 0))) (h : impl_isClause_any.f l0 a1 = some r) :
  Calls Try.prog 48 #[.slice A0 l0.length c0, .func (.func 51) #[] #[.pointer (some ⟨B1, 0, none⟩)]] w
   fun e w' => e = .returned (.bool r) ∧ Below w.heap.size w w' := by
 have hI := impl_isClause_any.index A0 c0 l0 B1 a1 r w hr0 hc0 hx1 h
 clear hr0 h hx1
 go_enter Try.func48, Try.ntmps48
 go_wp2_with (go_at_call 53; refine hI.mono ?_; rintro e w' ⟨⟨n, rfl, hn⟩, hb⟩; have HN := Aside0.mk hn; have HB := Aside0.mk hb; clear hn hb)
 go_ret
 exact ⟨by have h1 := HN.out; simp only [ge_iff_le] at h1; first | rfl | (rw [h1]; rfl) | rw [h1], HB.out⟩


/-! ### impl_isClause: function 44 -/
def impl_isClause.f (l0 : List Int) (a1 : Int) : Option (Bool) := if (l0.length : Int) ≤ 8 then ((impl_isClause_any.f l0 a1).bind fun t272 => (some (!t272))) else (some false)
set_option maxHeartbeats 8000000 in
set_option maxRecDepth 100000 in
theorem impl_isClause.calls (A0 : Option Addr) (c0 : Nat) (l0 : List Int) (a1 : Int) (r : Bool) (w : World) (hr0 : Kd.C (Kd.int .i64) w A0 l0.length l0) (hc0 : l0.length ≤ c0) (h : impl_isClause.f l0 a1 = some r) :
  Calls Try.prog 44 #[.slice A0 l0.length c0, .int .i64 a1] w fun e w' => e = .returned (.bool r) ∧ Below w.heap.size w w' := by
 have HR0 := Aside0.mk hr0
 have HC0 := Aside0.mk hc0
 clear hr0 hc0
 have HB := Aside0.mk (Below.refl w.heap.size w)
 have H : (if (l0.length : Int) ≤ 8 then ((impl_isClause_any.f l0 a1).bind fun t272 => (some (!t272))) else (some false)) = some r := h
 clear h
 by_cases c3 : (l0.length : Int) ≤ 8
 ·rw [if_pos c3] at H
  have c3b0 : decide ((l0.length : Int) ≤ 8) = true := decide_eq_true c3
  have c3b1 : decide (l0.length ≤ 8) = true := decide_eq_true (by omega)
  clear c3
  replace H := Option.bind_eq_some_iff.mp H
  obtain ⟨t272, A40, H⟩ := H
  replace H : (some (!t272)) = some r := H
  have A4 := Aside0.mk A40
  clear A40
  obtain rfl := Option.some.inj H
  go_enter Try.func44, Try.ntmps44
  go_wp2_with (first | ((with_reducible refine gate_dst (N := 3) rfl ?_); refine box_event ?hg (N := 3) ?hd (cs := #[.int .i64 a1]) (t := 3) ?hr ?_; (case hd => rfl); (case hg => rfl); (case hr => first | (go_simp; done) | (go_simp; rfl)); intro gb271 hg w5 hbox hb; have n0_ := Aside0.mk (below_step (qB) hb); have n1_ := Aside0.mk (hbox); have n2_ := Aside0.mk ((by rw [hg]; exact (below_size (qB)) : w.heap.size ≤ gb271)); have n3_ := Aside0.mk ((by rw [hg]; exact (below_size (qB)) : w.heap.size ≤ gb271)); clear HB; have HB := n0_; have BK271 := n1_; have GW271 := n2_; have GE271 := n3_; clear n0_ n1_ n2_ n3_; clear hb hbox hg; have hcz6_0 : w5.cell? ⟨gb271, 0, none⟩ = some (.int .i64 a1) := (blk_cell BK271.out 0).trans rfl; have hfz6_0 := blk_frozen BK271.out 0) | (go_at_call 48; (with_reducible refine (impl_isClause_any.calls _ _ l0 _ a1 t272 _ ?side1 ?side2 ?side3 A4.out).mono ?_); (case side1 => exact qC (Kd.C_below HR0.out HB.out)); (case side2 => exact HC0.out); (case side3 => exact by exact qK BK271.out); rintro e w7 ⟨rfl, hb⟩; have n0_ := Aside0.mk (blk_below (g := gb271) (o := .cells #[.int .i64 a1] 3 (0, 0)) (qK BK271.out) hb); have n1_ := Aside0.mk (below_step (qB) hb); clear BK271; clear HB; have BK271 := n0_; have HB := n1_; clear n0_ n1_; (try clear hb); (try clear hb2); (try clear hk); (try clear hi)))
  go_ret
  exact ⟨qE, qB⟩
 ·rw [if_neg c3] at H
  have c3b0 : decide ((l0.length : Int) ≤ 8) = false := decide_eq_false c3
  have c3b1 : decide (l0.length ≤ 8) = false := decide_eq_false (by omega)
  clear c3
  obtain rfl := Option.some.inj H
  go_enter Try.func44, Try.ntmps44
  go_wp2_with (first | ((with_reducible refine gate_dst (N := 3) rfl ?_); refine box_event ?hg (N := 3) ?hd (cs := #[.int .i64 a1]) (t := 3) ?hr ?_; (case hd => rfl); (case hg => rfl); (case hr => first | (go_simp; done) | (go_simp; rfl)); intro gb271 hg w8 hbox hb; have n0_ := Aside0.mk (below_step (qB) hb); have n1_ := Aside0.mk (hbox); have n2_ := Aside0.mk ((by rw [hg]; exact (below_size (qB)) : w.heap.size ≤ gb271)); have n3_ := Aside0.mk ((by rw [hg]; exact (below_size (qB)) : w.heap.size ≤ gb271)); clear HB; have HB := n0_; have BK271 := n1_; have GW271 := n2_; have GE271 := n3_; clear n0_ n1_ n2_ n3_; clear hb hbox hg))
  go_ret
  exact ⟨qE, qB⟩

-- NOT PRINTED: function 43 (impl_GoodCnf_1)


-- HAND
/-! ### impl_GoodCnf: function 26 -/
/-- Is there an element of which p says yes? -/
def impl_GoodCnf_any.any {α : Type} (p : α → Option Bool) : List α → Option Bool
 | [] => some false
 | x :: t => (p x).bind fun b => if b = true then some true else impl_GoodCnf_any.any p t
def impl_GoodCnf_any.p (a1 : Int) (x : (List Int)) : Option Bool := (impl_isClause.f x a1).bind fun b => some (!b)
def impl_GoodCnf_any.f (l : List (List Int)) (a1 : Int) : Option (Bool) := impl_GoodCnf_any.any (impl_GoodCnf_any.p a1) l
theorem impl_GoodCnf_any.pred (B1 : Nat) (a1 : Int) (Ac : Option Addr) (nc cc : Nat) (x : (List Int)) (A : Option Addr) (c : Nat) (W : World) (b : Bool) (hx1 : W.heap[B1]? = some (.cells #[.int .i64 a1, .slice Ac nc cc] 30 (0, 0))) (hr : Kd.C (Kd.int .i64) W A x.length x) (hc : x.length ≤ c) (h : impl_GoodCnf_any.p a1 x = some b) :
  Calls Try.prog 43 #[.slice A x.length c, .pointer (some ⟨B1, 0, none⟩)] W fun e w' => e = .returned (.bool b) ∧ Below W.heap.size W w' := by
 have hc1 : W.cell? ⟨B1, 0, none⟩ = some (.int .i64 a1) := (blk_cell hx1 0).trans rfl
 obtain ⟨g, hg, h2⟩ := Option.bind_eq_some_iff.mp h
 obtain rfl : (!g) = b := Option.some.inj h2
 have HG := Aside0.mk hg
 have HR := Aside0.mk hr
 clear hg h h2 hx1 hr
 go_enter Try.func43, Try.ntmps43
 go_wp2_with (go_at_call 44; (with_reducible refine (impl_isClause.calls _ _ x _ g _ ?side1 ?side2 HG.out).mono ?_); (case side1 => exact qC HR.out); (case side2 => exact hc); rintro e w' ⟨rfl, hd⟩; have HD := Aside0.mk hd; clear hd)
 go_ret
 exact ⟨rfl, by first | exact HD.out | exact HD.out.below⟩
set_option maxHeartbeats 4000000 in
theorem impl_GoodCnf_any.index (A0 : Option Addr) (c0 : Nat) (l0 : List (List Int)) (B1 : Nat) (a1 : Int) (Ac : Option Addr) (nc cc : Nat) (r : Bool) (w : World) (hr0 : Kd.C (Kd.slice 3 (Kd.int .i64)) w A0 l0.length l0) (hc0 : l0.length ≤ c0) (hx1 : w.heap[B1]? = some (.cells #[.int .i64 a1, .slice Ac nc cc] 30 (0, 0))) (h : impl_GoodCnf_any.any (impl_GoodCnf_any.p a1) l0 = some r) :
  Calls Try.prog 50 #[.slice A0 l0.length c0, .func (.func 43) #[] #[.pointer (some ⟨B1, 0, none⟩)]] w
   fun e w' => (∃ n : Int, e = .returned (.int .i64 n) ∧ decide (n ≥ 0) = r) ∧ Below w.heap.size w w' := by
 have hm := hr0.2.1
 have HR := Aside0.mk hr0
 have HH := Aside0.mk h
 clear hr0 h
 have hone : ∀ (x : (List Int)) (W : World), Below w.heap.size w W → ∀ (A : Option Addr) (c : Nat), Kd.C (Kd.int .i64) W A x.length x → x.length ≤ c → ∀ b, (impl_GoodCnf_any.p a1) x = some b → Calls Try.prog 43 #[.slice A x.length c, .pointer (some ⟨B1, 0, none⟩)] W fun e w' => e = .returned (.bool b) ∧ Below W.heap.size W w' :=
  fun x W hb A c hr hc b h => impl_GoodCnf_any.pred B1 a1 Ac nc cc x A c W b ((hb.block _ (blk_lt hx1)).trans hx1) hr hc h
 have HO := Aside0.mk hone
 clear hone hx1
 go_enter Try.func50, Try.ntmps50
 go_wp2
 go_loopg [5, 8] l0.length (fun gg _ s8 wr => ∃ kk : Nat, kk ≤ l0.length ∧ l0.length - kk ≤ gg ∧ s8 = .int .i64 kk ∧ Aside0 (Below w.heap.size w wr) ∧ Aside0 (impl_GoodCnf_any.any (impl_GoodCnf_any.p a1) (l0.drop kk) = some r))
 case atStart => exact ⟨0, Nat.zero_le _, by omega, rfl, ⟨Below.refl _ _⟩, HH⟩
 case round =>
  clear HH
  obtain ⟨kk, hkk, hg, rfl, HB, HA⟩ := hrel
  by_cases hlt : kk < l0.length
  ·have hltz : (kk : Int) < (l0.length : Int) := by omega
   have h1 := HA.out
   rw [List.drop_eq_getElem_cons hlt] at h1
   unfold impl_GoodCnf_any.any at h1
   obtain ⟨ad, cs, e, hcsl, hK, hcs⟩ := Kd.C_get HR.out ([] : List Int) (kk : Int) (by omega) hltz
   cases e
   obtain ⟨A1, c1, rfl, hl1, hr1⟩ := hK
   have hcell : w.cell? (ad.add (kk : Int).toNat) = some (.slice A1 (l0.getD (kk : Int).toNat []).length c1) := by have hq := hcs 0 _ rfl; rwa [show (Kd.slice 3 (Kd.int .i64)).sz = 1 from rfl, Nat.mul_one, Nat.add_zero] at hq
   clear hcs hcsl
   replace hcell := (HB.out.cell (World.block_lt_of_cell? w _ hcell)).trans hcell
   replace hr1 := Kd.C_below hr1 HB.out
   have hget : l0.getD (kk : Int).toNat [] = l0[kk] := by rw [Int.toNat_natCast, List.getD_eq_getElem?_getD, List.getElem?_eq_getElem hlt]; rfl
   obtain ⟨y, hy⟩ : ∃ y, l0.getD (kk : Int).toNat [] = y := ⟨_, rfl⟩
   rw [hy] at hcell hget hl1 hr1
   clear hy
   rw [Int.toNat_natCast] at hcell
   have HR1 := Aside0.mk hr1
   have HL1 := Aside0.mk hl1
   clear hr1 hl1
   rw [← hget] at h1
   clear hget
   obtain ⟨q, hq, h2⟩ := Option.bind_eq_some_iff.mp h1
   clear h1
   have HQ := Aside0.mk hq
   clear hq
   cases q with
   | true =>
    have h3 : true = r := by simpa using h2
    have H3 := Aside0.mk h3
    clear h2 h3
    go_wp2_with (go_at_call 43; refine ((HO.out y _ HB.out _ _ HR1.out HL1.out _ HQ.out)).mono ?_; rintro e w' ⟨rfl, hb⟩; have HB2 := Aside0.mk (below_step HB.out hb); clear hb)
    go_ret
    exact ⟨⟨_, rfl, by rw [← H3.out]; exact decide_eq_true (by omega)⟩, HB2.out⟩
   | false =>
    have h3 : impl_GoodCnf_any.any (impl_GoodCnf_any.p a1) (l0.drop (kk + 1)) = some r := by simpa using h2
    have H3 := Aside0.mk h3
    clear h2 h3
    go_wp2_with (go_at_call 43; refine ((HO.out y _ HB.out _ _ HR1.out HL1.out _ HQ.out)).mono ?_; rintro e w' ⟨rfl, hb⟩; have HB2 := Aside0.mk (below_step HB.out hb); clear hb)
    go_roundg (l0.length - (kk + 1))
    case measure => omega
    case rel => exact ⟨kk + 1, by omega, by omega, by go_num, HB2, H3⟩
  ·have hltz : ¬ (kk : Int) < (l0.length : Int) := by omega
   obtain rfl : kk = l0.length := by omega
   go_wp2
   go_ret
   exact ⟨⟨_, rfl, by have h4 := HA.out; rw [List.drop_length] at h4; unfold impl_GoodCnf_any.any at h4; rw [← Option.some.inj h4]; rfl⟩, HB.out⟩
theorem impl_GoodCnf_any.calls (A0 : Option Addr) (c0 : Nat) (l0 : List (List Int)) (B1 : Nat) (a1 : Int) (Ac : Option Addr) (nc cc : Nat) (r : Bool) (w : World) (hr0 : Kd.C (Kd.slice 3 (Kd.int .i64)) w A0 l0.length l0) (hc0 : l0.length ≤ c0) (hx1 : w.heap[B1]? = some (.cells #[.int .i64 a1, .slice Ac nc cc] 30 (0, 0))) (h : impl_GoodCnf_any.f l0 a1 = some r) :
  Calls Try.prog 42 #[.slice A0 l0.length c0, .func (.func 43) #[] #[.pointer (some ⟨B1, 0, none⟩)]] w
   fun e w' => e = .returned (.bool r) ∧ Below w.heap.size w w' := by
 have hI := impl_GoodCnf_any.index A0 c0 l0 B1 a1 Ac nc cc r w hr0 hc0 hx1 h
 clear hr0 h hx1
 go_enter Try.func42, Try.ntmps42
 go_wp2_with (go_at_call 50; refine hI.mono ?_; rintro e w' ⟨⟨n, rfl, hn⟩, hb⟩; have HN := Aside0.mk hn; have HB := Aside0.mk hb; clear hn hb)
 go_ret
 exact ⟨by have h1 := HN.out; simp only [ge_iff_le] at h1; first | rfl | (rw [h1]; rfl) | rw [h1], HB.out⟩
def impl_GoodCnf.f (a0_0 : Int) (l0_1 : List (List Int)) : Option (Bool) := if a0_0 < 0 then some false else if a0_0 > 400 then some false else if (l0_1.length : Int) > 1400 then some false else (impl_GoodCnf_any.f l0_1 a0_0).bind fun b => some (!b)
set_option maxHeartbeats 4000000 in
theorem impl_GoodCnf.calls (a0_0 : Int) (A0_1 : Option Addr) (c0_1 : Nat) (l0_1 : List (List Int)) (r : Bool) (w : World) (hr0_1 : Kd.C (Kd.slice 3 (Kd.int .i64)) w A0_1 l0_1.length l0_1) (hc0_1 : l0_1.length ≤ c0_1) (h : impl_GoodCnf.f a0_0 l0_1 = some r) :
  Calls Try.prog 26 #[.agg #[.int .i64 a0_0, .slice A0_1 l0_1.length c0_1]] w fun e w' => e = .returned (.bool r) ∧ Below w.heap.size w w' := by
 have HR := Aside0.mk hr0_1
 clear hr0_1
 unfold impl_GoodCnf.f at h
 by_cases t0 : a0_0 < 0
 ·rw [if_pos t0] at h
  obtain rfl := Option.some.inj h
  have b0 : decide (a0_0 < 0) = true := decide_eq_true t0
  clear h t0
  go_enter Try.func26, Try.ntmps26
  go_wp2
  go_ret
  exact ⟨rfl, (Below.refl _ _).alloc (Nat.le_refl _) _⟩
 ·rw [if_neg t0] at h
  have b0 : decide (a0_0 < 0) = false := decide_eq_false t0
  by_cases t1 : a0_0 > 400
  ·rw [if_pos t1] at h
   obtain rfl := Option.some.inj h
   have b1 : decide (a0_0 > 400) = true := decide_eq_true t1
   clear h t0 t1
   go_enter Try.func26, Try.ntmps26
   go_wp2
   go_ret
   exact ⟨rfl, (Below.refl _ _).alloc (Nat.le_refl _) _⟩
  ·rw [if_neg t1] at h
   have b1 : decide (a0_0 > 400) = false := decide_eq_false t1
   by_cases t2 : (l0_1.length : Int) > 1400
   ·rw [if_pos t2] at h
    obtain rfl := Option.some.inj h
    have b2 : decide ((l0_1.length : Int) > 1400) = true := decide_eq_true t2
    clear h t0 t1
    go_enter Try.func26, Try.ntmps26
    go_wp2
    go_ret
    exact ⟨rfl, (Below.refl _ _).alloc (Nat.le_refl _) _⟩
   ·rw [if_neg t2] at h
    have b2 : decide ((l0_1.length : Int) > 1400) = false := decide_eq_false t2
    obtain ⟨g, hg, h2⟩ := Option.bind_eq_some_iff.mp h
    obtain rfl : (!g) = r := Option.some.inj h2
    have HG := Aside0.mk hg
    clear h h2 hg t0 t1
    go_enter Try.func26, Try.ntmps26
    go_wp2_with (first | ((with_reducible refine gate_dst (N := 1) rfl ?_); refine box_event ?hg (N := 1) ?hd (cs := #[.int .i64 a0_0, .slice A0_1 l0_1.length c0_1]) (t := 30) ?hr ?_; (case hd => rfl); (case hg => rfl); (case hr => first | (go_simp; done) | (go_simp; rfl)); intro gb hg w2 hbox hb; have HBK := Aside0.mk hbox; have HB := Aside0.mk hb; have hz0 : w2.cell? ⟨gb, 0, none⟩ = some (.int .i64 a0_0) := (blk_cell hbox 0).trans rfl; have hz1 : w2.cell? ⟨gb, 1, none⟩ = some (.slice A0_1 l0_1.length c0_1) := (blk_cell hbox 1).trans rfl; clear hbox hb hg) | (go_at_call 42; refine (impl_GoodCnf_any.calls A0_1 c0_1 l0_1 gb a0_0 A0_1 l0_1.length c0_1 g _ ?side1 hc0_1 ?side3 HG.out).mono ?_; (case side1 => exact qC (Kd.C_below HR.out HB.out)); (case side3 => (with_reducible repeat (first | refine blk_drewN ?_ _ | refine blk_drew ?_ | refine blk_alloc ?_ _)); exact HBK.out); rintro e w3 ⟨rfl, hb⟩; have HB2 := Aside0.mk (below_step (qB) hb); clear hb))
    go_ret
    exact ⟨rfl, HB2.out⟩

end Go.Proofs.Ytgdmdaalmoioeaa.X
