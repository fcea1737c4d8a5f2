/- Each Go function as a Lean function, with the proof that the call comes to just its answer; or a law's row out of its pure statement. Conditions: the arguments are of their kinds. Written by this session's program wip/xp/xp.sh. -/
import Derived.Test.YtdmngodinbelfaaX0
import Derived.Test.YtdmngodinbelfaaX12
namespace Go.Proofs.Ytdmngodinbelfaa.X
open Go.RowKit Go.Proofs.YtdmngodinbelfaaW.PrintWords Go.Proofs.YtdmngodinbelfaaW.PrintLast Go.Proofs.YtdmngodinbelfaaW.PrintMore
attribute [local go_sem] max2_int min2_int max_two min_two max_three min_three max_four min_four   -- for this text's walks alone
set_option linter.unusedVariables false
set_option linter.unusedSimpArgs false

-- HAND
/-! ### impl_Cnf_meets: function 43 -/
/-- Is there an element of which p says yes? -/
def impl_meets_in.any {α : Type} (p : α → Option Bool) : List α → Option Bool
  | [] => some false
  | x :: t => (p x).bind fun b => if b = true then some true else impl_meets_in.any p t
def impl_meets_in.p (vs : List Bool) (x : Int) : Option Bool := (impl_nameOfLiteral.f x).bind fun t => if 0 ≤ wrap64 (t - 1) then (if wrap64 (t - 1) < (vs.length : Int) then some (rdOf false vs (wrap64 (t - 1)) == decide (x > 0)) else none) else none
def impl_meets_in.f (l : List Int) (vs : List Bool) : Option (Bool) := impl_meets_in.any (impl_meets_in.p vs) l
/-- The variable of a literal; nothing is turned. -/
theorem nameOf_quiet (a0 : Int) (r : Int) (w : World) (h : impl_nameOfLiteral.f a0 = some r) :
    Calls Try.prog 62 #[.int .i64 a0] w fun e w' => e = .returned (.int .i64 r) ∧ Drawn0 w w' := by
  have H : (some (mx a0 (wrap64 (-a0)))) = some r := h
  clear h
  obtain ⟨ji2, hji2⟩ : ∃ j_ : Int, (mx a0 (wrap64 (-a0))) = j_ := ⟨_, rfl⟩
  replace H : (some ji2) = some r := by first | (rw [hji2] at H; exact H) | (simp only [hji2] at H ⊢; exact H)
  have hji2_ : (if a0 < (wrap64 (-a0)) then (wrap64 (-a0)) else a0) = ji2 := hji2
  obtain rfl := Option.some.inj H
  go_enter Try.func62, Try.ntmps62
  go_wp2
  go_ret
  exact ⟨by first | rfl | (simp only [← hji2]; rfl) | (simp [*] <;> rfl), Drawn0.refl _⟩
theorem impl_meets_in.pred (B1 : Nat) (Av : Option Addr) (cv : Nat) (vs : List Bool) (x : Int) (W : World) (b : Bool) (hx1 : W.heap[B1]? = some (.cells #[.slice Av vs.length cv] 31 (0, 0))) (hv : Kd.C Kd.bool W Av vs.length vs) (h : impl_meets_in.p vs x = some b) :
    Calls Try.prog 61 #[.int .i64 x, .pointer (some ⟨B1, 0, none⟩)] W fun e w' => e = .returned (.bool b) ∧ Below W.heap.size W w' := by
  have hc1 : W.cell? ⟨B1, 0, none⟩ = some (.slice Av vs.length cv) := (blk_cell hx1 0).trans rfl
  unfold impl_meets_in.p at h
  obtain ⟨t, ht, h2⟩ := Option.bind_eq_some_iff.mp h
  clear h
  obtain ⟨j, hj⟩ : ∃ j : Int, wrap64 (t - 1) = j := ⟨_, rfl⟩
  rw [hj] at h2
  split at h2
  case isFalse => cases h2
  rename_i j0
  split at h2
  case isFalse => cases h2
  rename_i j1
  obtain ⟨ad, e, hcell⟩ := Kd.at_bool hv j j0 j1
  cases e
  obtain ⟨q, hq⟩ : ∃ q, rdOf false vs j = q := ⟨_, rfl⟩
  rw [hq] at h2 hcell
  obtain rfl : (q == decide (x > 0)) = b := Option.some.inj h2
  have hjw : IntKind.i64.wrap (t - 1) = j := (i64_w _).trans hj
  have HT := Aside0.mk ht
  have b0 : decide (0 ≤ j) = true := decide_eq_true j0
  have b1 : decide (j < (vs.length : Int)) = true := decide_eq_true j1
  clear ht h2 hx1 hv hq hj
  go_enter Try.func61, Try.ntmps61
  go_wp2
  repeat (go_quiet ((go_at_call 62; (with_reducible refine (nameOf_quiet x t _ HT.out).mono ?_); rintro e w' ⟨rfl, ⟨nd, rfl⟩⟩; (try first | exact ⟨rfl, _, World.drewN_drewN _ _ _⟩ | exact ⟨rfl, _, Eq.trans (World.drewN_drewN _ _ _) (congrArg (World.drewN _) (Nat.add_assoc _ _ _))⟩))))
  go_wp2
  go_ret
  exact ⟨rfl, by repeat (first | exact Below.refl _ _ | apply pw_below_drewN)⟩
set_option maxHeartbeats 4000000 in
theorem impl_meets_in.index (A0 : Option Addr) (c0 : Nat) (l0 : List Int) (B1 : Nat) (Av : Option Addr) (cv : Nat) (vs : List Bool) (r : Bool) (w : World) (hr0 : Kd.C (Kd.int .i64) w A0 l0.length l0) (hc0 : l0.length ≤ c0) (hx1 : w.heap[B1]? = some (.cells #[.slice Av vs.length cv] 31 (0, 0))) (hv : Kd.C Kd.bool w Av vs.length vs) (h : impl_meets_in.any (impl_meets_in.p vs) l0 = some r) :
    Calls Try.prog 73 #[.slice A0 l0.length c0, .func (.func 61) #[] #[.pointer (some ⟨B1, 0, none⟩)]] w
      fun e w' => (∃ n : Int, e = .returned (.int .i64 n) ∧ decide (n ≥ 0) = r) ∧ Below w.heap.size w w' := by
  have hm := hr0.2.1
  have HR := Aside0.mk hr0
  have HH := Aside0.mk h
  clear hr0 h
  have hone : ∀ (x : Int) (W : World), Below w.heap.size w W → ∀ b, (impl_meets_in.p vs) x = some b → Calls Try.prog 61 #[.int .i64 x, .pointer (some ⟨B1, 0, none⟩)] W fun e w' => e = .returned (.bool b) ∧ Below W.heap.size W w' :=
    fun x W hb b h => impl_meets_in.pred B1 Av cv vs x W b ((hb.block _ (blk_lt hx1)).trans hx1) (Kd.C_below hv hb) h
  have HO := Aside0.mk hone
  clear hone hx1 hv
  go_enter Try.func73, Try.ntmps73
  go_wp2
  go_loopg [5, 8] l0.length (fun gg _ s8 wr => ∃ kk : Nat, kk ≤ l0.length ∧ l0.length - kk ≤ gg ∧ s8 = .int .i64 kk ∧ Aside0 (Below w.heap.size w wr) ∧ Aside0 (impl_meets_in.any (impl_meets_in.p vs) (l0.drop kk) = some r))
  case atStart => exact ⟨0, Nat.zero_le _, by omega, rfl, ⟨Below.refl _ _⟩, HH⟩
  case round =>
    clear HH
    obtain ⟨kk, hkk, hg, rfl, HB, HA⟩ := hrel
    by_cases hlt : kk < l0.length
    · have hltz : (kk : Int) < (l0.length : Int) := by omega
      have h1 := HA.out
      rw [List.drop_eq_getElem_cons hlt] at h1
      unfold impl_meets_in.any at h1
      obtain ⟨ad, e, hcell⟩ := Kd.at_int HR.out (kk : Int) (by omega) hltz
      cases e
      replace hcell := (HB.out.cell (World.block_lt_of_cell? w _ hcell)).trans hcell
      obtain ⟨y, hy⟩ : ∃ y, rd l0 (kk : Int) = y := ⟨_, rfl⟩
      have hget : rd l0 (kk : Int) = l0[kk] := by unfold rd; rw [Int.toNat_natCast, List.getD_eq_getElem?_getD, List.getElem?_eq_getElem hlt]; rfl
      rw [hy] at hcell hget
      clear hy
      rw [Int.toNat_natCast] at hcell
      rw [← hget] at h1
      clear hget
      obtain ⟨q, hq, h2⟩ := Option.bind_eq_some_iff.mp h1
      clear h1
      have HQ := Aside0.mk hq
      clear hq
      cases q with
      | true =>
        have h3 : true = r := by simpa using h2
        have H3 := Aside0.mk h3
        clear h2 h3
        go_wp2_with (go_at_call 61; refine ((HO.out y _ HB.out _ HQ.out)).mono ?_; rintro e w' ⟨rfl, hb⟩; have HB2 := Aside0.mk (below_step HB.out hb); clear hb)
        go_ret
        exact ⟨⟨_, rfl, by rw [← H3.out]; exact decide_eq_true (by omega)⟩, HB2.out⟩
      | false =>
        have h3 : impl_meets_in.any (impl_meets_in.p vs) (l0.drop (kk + 1)) = some r := by simpa using h2
        have H3 := Aside0.mk h3
        clear h2 h3
        go_wp2_with (go_at_call 61; refine ((HO.out y _ HB.out _ HQ.out)).mono ?_; rintro e w' ⟨rfl, hb⟩; have HB2 := Aside0.mk (below_step HB.out hb); clear hb)
        go_roundg (l0.length - (kk + 1))
        case measure => omega
        case rel => exact ⟨kk + 1, by omega, by omega, by go_num, HB2, H3⟩
    · have hltz : ¬ (kk : Int) < (l0.length : Int) := by omega
      obtain rfl : kk = l0.length := by omega
      go_wp2
      go_ret
      exact ⟨⟨_, rfl, by have h4 := HA.out; rw [List.drop_length] at h4; unfold impl_meets_in.any at h4; rw [← Option.some.inj h4]; rfl⟩, HB.out⟩
theorem impl_meets_in.calls (A0 : Option Addr) (c0 : Nat) (l0 : List Int) (B1 : Nat) (Av : Option Addr) (cv : Nat) (vs : List Bool) (r : Bool) (w : World) (hr0 : Kd.C (Kd.int .i64) w A0 l0.length l0) (hc0 : l0.length ≤ c0) (hx1 : w.heap[B1]? = some (.cells #[.slice Av vs.length cv] 31 (0, 0))) (hv : Kd.C Kd.bool w Av vs.length vs) (h : impl_meets_in.f l0 vs = some r) :
    Calls Try.prog 58 #[.slice A0 l0.length c0, .func (.func 61) #[] #[.pointer (some ⟨B1, 0, none⟩)]] w
      fun e w' => e = .returned (.bool r) ∧ Below w.heap.size w w' := by
  have hI := impl_meets_in.index A0 c0 l0 B1 Av cv vs r w hr0 hc0 hx1 hv h
  clear hr0 h hx1 hv
  go_enter Try.func58, Try.ntmps58
  go_wp2_with (go_at_call 73; refine hI.mono ?_; rintro e w' ⟨⟨n, rfl, hn⟩, hb⟩; have HN := Aside0.mk hn; have HB := Aside0.mk hb; clear hn hb)
  go_ret
  exact ⟨by have h1 := HN.out; simp only [ge_iff_le] at h1; first | rfl | (rw [h1]; rfl) | rw [h1], HB.out⟩
/-- Is there an element of which p says yes? -/
def impl_meets_any.any {α : Type} (p : α → Option Bool) : List α → Option Bool
  | [] => some false
  | x :: t => (p x).bind fun b => if b = true then some true else impl_meets_any.any p t
def impl_meets_any.p (vs : List Bool) (x : (List Int)) : Option Bool := (impl_meets_in.f x vs).bind fun b => some (!b)
def impl_meets_any.f (l : List (List Int)) (vs : List Bool) : Option (Bool) := impl_meets_any.any (impl_meets_any.p vs) l
theorem impl_meets_any.pred (B1 : Nat) (Av : Option Addr) (cv : Nat) (vs : List Bool) (x : (List Int)) (A : Option Addr) (c : Nat) (W : World) (b : Bool) (hx1 : W.heap[B1]? = some (.cells #[.slice Av vs.length cv] 31 (0, 0))) (hv : Kd.C Kd.bool W Av vs.length vs) (hr : Kd.C (Kd.int .i64) W A x.length x) (hc : x.length ≤ c) (h : impl_meets_any.p vs x = some b) :
    Calls Try.prog 60 #[.slice A x.length c, .pointer (some ⟨B1, 0, none⟩)] W fun e w' => e = .returned (.bool b) ∧ Below W.heap.size W w' := by
  obtain ⟨g, hg, h2⟩ := Option.bind_eq_some_iff.mp h
  obtain rfl : (!g) = b := Option.some.inj h2
  have hI := impl_meets_in.calls A c x B1 Av cv vs g W hr hc hx1 hv hg
  clear hg h h2 hx1 hr hv
  go_enter Try.func60, Try.ntmps60
  go_wp2_with (go_at_call 58; refine hI.mono ?_; rintro e w' ⟨rfl, hd⟩; have HD := Aside0.mk hd; clear hd)
  go_ret
  exact ⟨rfl, HD.out⟩
set_option maxHeartbeats 4000000 in
theorem impl_meets_any.index (A0 : Option Addr) (c0 : Nat) (l0 : List (List Int)) (B1 : Nat) (Av : Option Addr) (cv : Nat) (vs : List Bool) (r : Bool) (w : World) (hr0 : Kd.C (Kd.slice 3 (Kd.int .i64)) w A0 l0.length l0) (hc0 : l0.length ≤ c0) (hx1 : w.heap[B1]? = some (.cells #[.slice Av vs.length cv] 31 (0, 0))) (hv : Kd.C Kd.bool w Av vs.length vs) (h : impl_meets_any.any (impl_meets_any.p vs) l0 = some r) :
    Calls Try.prog 57 #[.slice A0 l0.length c0, .func (.func 60) #[] #[.pointer (some ⟨B1, 0, none⟩)]] w
      fun e w' => (∃ n : Int, e = .returned (.int .i64 n) ∧ decide (n ≥ 0) = r) ∧ Below w.heap.size w w' := by
  have hm := hr0.2.1
  have HR := Aside0.mk hr0
  have HH := Aside0.mk h
  clear hr0 h
  have hone : ∀ (x : (List Int)) (W : World), Below w.heap.size w W → ∀ (A : Option Addr) (c : Nat), Kd.C (Kd.int .i64) W A x.length x → x.length ≤ c → ∀ b, (impl_meets_any.p vs) x = some b → Calls Try.prog 60 #[.slice A x.length c, .pointer (some ⟨B1, 0, none⟩)] W fun e w' => e = .returned (.bool b) ∧ Below W.heap.size W w' :=
    fun x W hb A c hr hc b h => impl_meets_any.pred B1 Av cv vs x A c W b ((hb.block _ (blk_lt hx1)).trans hx1) (Kd.C_below hv hb) hr hc h
  have HO := Aside0.mk hone
  clear hone hx1 hv
  go_enter Try.func57, Try.ntmps57
  go_wp2
  go_loopg [5, 8] l0.length (fun gg _ s8 wr => ∃ kk : Nat, kk ≤ l0.length ∧ l0.length - kk ≤ gg ∧ s8 = .int .i64 kk ∧ Aside0 (Below w.heap.size w wr) ∧ Aside0 (impl_meets_any.any (impl_meets_any.p vs) (l0.drop kk) = some r))
  case atStart => exact ⟨0, Nat.zero_le _, by omega, rfl, ⟨Below.refl _ _⟩, HH⟩
  case round =>
    clear HH
    obtain ⟨kk, hkk, hg, rfl, HB, HA⟩ := hrel
    by_cases hlt : kk < l0.length
    · have hltz : (kk : Int) < (l0.length : Int) := by omega
      have h1 := HA.out
      rw [List.drop_eq_getElem_cons hlt] at h1
      unfold impl_meets_any.any at h1
      obtain ⟨ad, cs, e, hcsl, hK, hcs⟩ := Kd.C_get HR.out ([] : List Int) (kk : Int) (by omega) hltz
      cases e
      obtain ⟨A1, c1, rfl, hl1, hr1⟩ := hK
      have hcell : w.cell? (ad.add (kk : Int).toNat) = some (.slice A1 (l0.getD (kk : Int).toNat []).length c1) := by have hq := hcs 0 _ rfl; rwa [show (Kd.slice 3 (Kd.int .i64)).sz = 1 from rfl, Nat.mul_one, Nat.add_zero] at hq
      clear hcs hcsl
      replace hcell := (HB.out.cell (World.block_lt_of_cell? w _ hcell)).trans hcell
      replace hr1 := Kd.C_below hr1 HB.out
      have hget : l0.getD (kk : Int).toNat [] = l0[kk] := by rw [Int.toNat_natCast, List.getD_eq_getElem?_getD, List.getElem?_eq_getElem hlt]; rfl
      obtain ⟨y, hy⟩ : ∃ y, l0.getD (kk : Int).toNat [] = y := ⟨_, rfl⟩
      rw [hy] at hcell hget hl1 hr1
      clear hy
      rw [Int.toNat_natCast] at hcell
      have HR1 := Aside0.mk hr1
      have HL1 := Aside0.mk hl1
      clear hr1 hl1
      rw [← hget] at h1
      clear hget
      obtain ⟨q, hq, h2⟩ := Option.bind_eq_some_iff.mp h1
      clear h1
      have HQ := Aside0.mk hq
      clear hq
      cases q with
      | true =>
        have h3 : true = r := by simpa using h2
        have H3 := Aside0.mk h3
        clear h2 h3
        go_wp2_with (go_at_call 60; refine ((HO.out y _ HB.out _ _ HR1.out HL1.out _ HQ.out)).mono ?_; rintro e w' ⟨rfl, hb⟩; have HB2 := Aside0.mk (below_step HB.out hb); clear hb)
        go_ret
        exact ⟨⟨_, rfl, by rw [← H3.out]; exact decide_eq_true (by omega)⟩, HB2.out⟩
      | false =>
        have h3 : impl_meets_any.any (impl_meets_any.p vs) (l0.drop (kk + 1)) = some r := by simpa using h2
        have H3 := Aside0.mk h3
        clear h2 h3
        go_wp2_with (go_at_call 60; refine ((HO.out y _ HB.out _ _ HR1.out HL1.out _ HQ.out)).mono ?_; rintro e w' ⟨rfl, hb⟩; have HB2 := Aside0.mk (below_step HB.out hb); clear hb)
        go_roundg (l0.length - (kk + 1))
        case measure => omega
        case rel => exact ⟨kk + 1, by omega, by omega, by go_num, HB2, H3⟩
    · have hltz : ¬ (kk : Int) < (l0.length : Int) := by omega
      obtain rfl : kk = l0.length := by omega
      go_wp2
      go_ret
      exact ⟨⟨_, rfl, by have h4 := HA.out; rw [List.drop_length] at h4; unfold impl_meets_any.any at h4; rw [← Option.some.inj h4]; rfl⟩, HB.out⟩
theorem impl_meets_any.calls (A0 : Option Addr) (c0 : Nat) (l0 : List (List Int)) (B1 : Nat) (Av : Option Addr) (cv : Nat) (vs : List Bool) (r : Bool) (w : World) (hr0 : Kd.C (Kd.slice 3 (Kd.int .i64)) w A0 l0.length l0) (hc0 : l0.length ≤ c0) (hx1 : w.heap[B1]? = some (.cells #[.slice Av vs.length cv] 31 (0, 0))) (hv : Kd.C Kd.bool w Av vs.length vs) (h : impl_meets_any.f l0 vs = some r) :
    Calls Try.prog 37 #[.slice A0 l0.length c0, .func (.func 60) #[] #[.pointer (some ⟨B1, 0, none⟩)]] w
      fun e w' => e = .returned (.bool r) ∧ Below w.heap.size w w' := by
  have hI := impl_meets_any.index A0 c0 l0 B1 Av cv vs r w hr0 hc0 hx1 hv h
  clear hr0 h hx1 hv
  go_enter Try.func37, Try.ntmps37
  go_wp2_with (go_at_call 57; refine hI.mono ?_; rintro e w' ⟨⟨n, rfl, hn⟩, hb⟩; have HN := Aside0.mk hn; have HB := Aside0.mk hb; clear hn hb)
  go_ret
  exact ⟨by have h1 := HN.out; simp only [ge_iff_le] at h1; first | rfl | (rw [h1]; rfl) | rw [h1], HB.out⟩
def impl_Cnf_meets.f (a0_0 : Int) (l0_1 : List (List Int)) (l1 : List Bool) : Option (Bool) := (impl_meets_any.f l0_1 l1).bind fun b => some (!b)
set_option maxHeartbeats 4000000 in
theorem impl_Cnf_meets.calls (a0_0 : Int) (A0_1 : Option Addr) (c0_1 : Nat) (l0_1 : List (List Int)) (A1 : Option Addr) (c1 : Nat) (l1 : List Bool) (r : Bool) (w : World) (hr0_1 : Kd.C (Kd.slice 3 (Kd.int .i64)) w A0_1 l0_1.length l0_1) (hc0_1 : l0_1.length ≤ c0_1) (hr1 : Kd.C Kd.bool w A1 l1.length l1) (hc1 : l1.length ≤ c1) (h : impl_Cnf_meets.f a0_0 l0_1 l1 = some r) :
    Calls Try.prog 43 #[.agg #[.int .i64 a0_0, .slice A0_1 l0_1.length c0_1], .slice A1 l1.length c1] w fun e w' => e = .returned (.bool r) ∧ Below w.heap.size w w' := by
  have HR := Aside0.mk hr0_1
  have HV := Aside0.mk hr1
  obtain ⟨g, hg, h2⟩ := Option.bind_eq_some_iff.mp h
  obtain rfl : (!g) = r := Option.some.inj h2
  have HG := Aside0.mk hg
  clear hr0_1 hr1 h h2 hg
  go_enter Try.func43, Try.ntmps43
  go_wp2_with (first | ((with_reducible refine gate_dst (N := 2) rfl ?_); refine box_event ?hg (N := 2) ?hd (cs := #[.int .i64 a0_0, .slice A0_1 l0_1.length c0_1]) (t := 27) ?hr ?_; (case hd => rfl); (case hg => rfl); (case hr => first | (go_simp; done) | (go_simp; rfl)); intro gb hg w2 hbox hb; have HBK := Aside0.mk hbox; have HB := Aside0.mk hb; clear hbox hb hg) | ((with_reducible refine gate_dst (N := 3) rfl ?_); refine box_event ?hg (N := 3) ?hd (cs := #[.slice A1 l1.length c1]) (t := 31) ?hr ?_; (case hd => rfl); (case hg => rfl); (case hr => first | (go_simp; done) | (go_simp; rfl)); intro gv hg w3 hbox hb; have HBV := Aside0.mk hbox; have hz1 : w3.cell? ⟨gb, 1, none⟩ = some (.slice A0_1 l0_1.length c0_1) := (hb.cell (World.block_lt_of_cell? _ _ ((blk_cell (qK HBK.out) 1).trans rfl))).trans ((blk_cell (qK HBK.out) 1).trans rfl); have HB3 := Aside0.mk (below_step (qB) hb); clear hbox hb hg) | (go_at_call 37; refine (impl_meets_any.calls A0_1 c0_1 l0_1 gv A1 c1 l1 g _ ?side1 hc0_1 ?side3 ?side4 HG.out).mono ?_; (case side1 => exact qC (Kd.C_below HR.out HB3.out)); (case side3 => (with_reducible repeat (first | refine blk_drewN ?_ _ | refine blk_drew ?_ | refine blk_alloc ?_ _)); exact HBV.out); (case side4 => exact qC (Kd.C_below HV.out HB3.out)); rintro e w4 ⟨rfl, hb⟩; have HB4 := Aside0.mk (below_step (by repeat (first | (with_reducible first | exact HB3.out | apply below_alloc | apply pw_below_drewN | apply below_drew1) | exact HB3.out)) hb); clear hb))
  go_ret
  exact ⟨rfl, HB4.out⟩

end Go.Proofs.Ytdmngodinbelfaa.X
