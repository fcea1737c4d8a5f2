/- Each Go function as a Lean function, with the proof that the call comes to just its answer; or a law's row out of its pure statement. Conditions: the arguments are of their kinds. Written by this session's program wip/xp/xp.sh. -/
import Derived.Test.YthageckjjbgonaaX0
import Derived.Sort.OwnSortedInts
import Derived.Test.YthageckjjbgonaaShelf
namespace Go.Proofs.Ythageckjjbgonaa.X
open Go.RowKit Go.Proofs.YthageckjjbgonaaW.PrintWords Go.Proofs.YthageckjjbgonaaW.PrintLast Go.Proofs.YthageckjjbgonaaW.PrintMore
attribute [local go_sem] max2_int min2_int max_two min_two max_three min_three max_four min_four   -- for this text's walks alone
set_option linter.unusedVariables false
set_option linter.unusedSimpArgs false

-- HAND
/-! ### impl_varsIn: function 49 -/
-- IMPORT Derived.Sort.OwnSortedInts
-- IMPORT Derived.Test.YthageckjjbgonaaShelf
/-- slices.Sort of a row of numbers of the call's own. -/
theorem sort_own {base : Nat} {ok : Nat → Prop} {v : Value} {xs : List Int} {w : World} (hR : Kd.R (Kd.int .i64) 3 w base ok v xs) (hl : xs.length < 4611686018427387904) :
    Calls Try.prog 61 #[v] w fun e w' => e = .returned (.tuple #[]) ∧ Kd.R (Kd.int .i64) 3 w' base ok v (xs.mergeSort fun x y => decide (x ≤ y)) ∧ w.grownBy w' v.ownBlock := by
  have hown : w.ownsRow base 3 1 v xs.length (encs (Value.int .i64) xs) := Kd.own_of_R hR
  rcases hown.2 with ⟨rfl, h0⟩ | ⟨g, cap, cur, rfl, hg, hb, hn, hcap, hcs, ht⟩
  · obtain rfl : xs = [] := List.eq_nil_of_length_eq_zero h0
    refine (Try.slices_Sort_int_none none 0 w).mono ?_
    rintro e w' ⟨rfl, rfl⟩
    exact ⟨rfl, by simpa using hR, ⟨rfl, rfl, rfl, Nat.le_refl _, fun _ _ _ => rfl⟩⟩
  · have hH := holds_of_blockI hb (ss := xs) (by simpa [encs] using ht)
    refine (Try.slices_Sort_int g 0 cap xs w hH (blk_lt hb) hl).mono ?_
    rintro e w' ⟨rfl, n, os, rfl⟩
    have hlen : (xs.mergeSort fun x y => decide (x ≤ y)).length = xs.length := List.length_mergeSort _
    have h2 := ownsRow_sortedI (n := n) (os := os) (ss := xs) (ts := xs.mergeSort fun x y => decide (x ≤ y)) hlen hg hb hn hcap hcs
    refine ⟨rfl, ?_, grownBy_sortedI _⟩
    rw [← hlen] at h2 ⊢
    exact Kd.R_of_own h2 hR.1
/-- slices.Compact of a row of numbers of the call's own. -/
theorem compact_own {base : Nat} {ok : Nat → Prop} {v : Value} {xs : List Int} {w : World} (hR : Kd.R (Kd.int .i64) 3 w base ok v xs) (hl : xs.length < 4611686018427387904) :
    Calls Try.prog 62 #[v] w fun e w' => ∃ v', e = .returned v' ∧ Kd.R (Kd.int .i64) 3 w' base ok v' (Lib.compact xs) ∧ w.grownBy w' v.ownBlock := by
  have hown : w.ownsRow base 3 1 v xs.length (encs (Value.int .i64) xs) := Kd.own_of_R hR
  rcases hown.2 with ⟨rfl, h0⟩ | ⟨g, cap, cur, rfl, hg, hb, hn, hcap, hcs, ht⟩
  · obtain rfl : xs = [] := List.eq_nil_of_length_eq_zero h0
    refine (Try.slices_Compact_int_empty none 0 w).mono ?_
    rintro e w' ⟨rfl, rfl⟩
    exact ⟨_, rfl, hR, ⟨rfl, rfl, rfl, Nat.le_refl _, fun _ _ _ => rfl⟩⟩
  · have hH := holds_of_blockI hb (ss := xs) (by simpa [encs] using ht)
    refine (Try.slices_Compact_int g 0 cap xs w hH (by omega) hn).mono ?_
    rintro e w' ⟨rfl, q, rfl⟩
    have hc := Lib.compact_length_le xs
    obtain ⟨ts, hts⟩ : ∃ ts, Lib.compact xs ++ List.replicate (xs.length - (Lib.compact xs).length) 0 = ts := ⟨_, rfl⟩
    have hlen : ts.length = xs.length := by rw [← hts]; simp; omega
    rw [hts]
    have h2 := ownsRow_sortedI (n := q) (os := #[]) (ss := xs) (ts := ts) hlen hg hb hn hcap hcs
    have h3 := grownBy_sortedI (w := w) (g := g) (n := q) (os := #[]) ts.toArray
    rw [Go.Sort.grow_empty] at h2 h3
    refine ⟨_, rfl, ?_, h3⟩
    have h4 := Kd.R_take (Kd.R_of_own (ok := ok) (h1 := fun _ => rfl) (xs := ts) (enc := Value.int .i64) (by rw [hlen]; exact h2) hR.1) (m := (Lib.compact xs).length) (by omega)
    have h5 : ts.take (Lib.compact xs).length = Lib.compact xs := by rw [← hts, List.take_left' rfl]
    rw [h5] at h4
    exact h4
/-- The variables of a term's nodes, as they come. -/
def varsAt (l : List S47) : List Int := (l.filter fun x => x.f0 == 2).map fun x => wrap64 x.f1
theorem varsAt_snoc (l : List S47) (kk : Nat) (h : kk < l.length) : varsAt (l.take (kk + 1)) = varsAt (l.take kk) ++ (if l[kk].f0 = 2 then [wrap64 l[kk].f1] else []) := by
  unfold varsAt
  rw [List.take_add_one, List.getElem?_eq_getElem h, Option.toList_some, List.filter_append, List.map_append]
  congr 1
  by_cases hq : l[kk].f0 = 2
  · simp [hq]
  · simp [hq]
theorem varsAt_len (l : List S47) : (varsAt l).length ≤ l.length := by
  unfold varsAt; rw [List.length_map]; exact List.length_filter_le _ _
/-- 'varsIn': the variables, sorted, each once. -/
def impl_varsIn.f (l0 : List (S47)) : Option (List Int) := if l0.length ≤ 1000000 then some (Lib.compact ((varsAt l0).mergeSort fun x y => decide (x ≤ y))) else none
set_option maxHeartbeats 8000000 in
theorem impl_varsIn.calls (A0 : Option Addr) (c0 : Nat) (l0 : List (S47)) (r : List Int) (w : World) (hr0 : Kd.C k47 w A0 l0.length l0) (hc0 : l0.length ≤ c0) (h : impl_varsIn.f l0 = some r) :
    Calls Try.prog 49 #[.slice A0 l0.length c0] w fun e w' => ∃ v0_ : Value, e = .returned (v0_) ∧ Kd.R (Kd.int .i64) 3 w' w.heap.size (fun _ => True) v0_ r ∧ Below w.heap.size w w' := by
  unfold impl_varsIn.f at h
  split at h
  case isFalse => cases h
  rename_i hlen
  obtain rfl := Option.some.inj h
  have HR := Aside0.mk hr0
  clear hr0 h
  go_enter Try.func49, Try.ntmps49
  go_wp2
  go_loopg [3, 9] l0.length (fun gg v3 v9 wr => ∃ kk : Nat, kk ≤ l0.length ∧ l0.length - kk ≤ gg ∧ v9 = .int .i64 kk ∧ Aside0 (Kd.R (Kd.int .i64) 3 wr w.heap.size (fun _ => True) v3 (varsAt (l0.take kk))) ∧ Aside0 (Below w.heap.size w wr))
  case atStart =>
    have h0 : (w.alloc (.cells #[] 3)).ownsRow w.heap.size 3 1 (.slice (some ⟨w.heap.size, 0, none⟩) 0 0) 0 [] := ⟨rfl, .inr ⟨_, 0, #[], rfl, Nat.le_refl _, by unfold World.alloc; simp, Nat.le_refl _, by simp [maxLen], rfl, rfl⟩⟩
    exact ⟨0, Nat.zero_le _, by omega, rfl, ⟨Kd.R_of_own (enc := Value.int .i64) (xs := []) h0 (fun _ _ => trivial)⟩, ⟨(Below.refl _ _).alloc (Nat.le_refl _) _⟩⟩
  case round =>
    obtain ⟨kk, hkk, hg, rfl, HV, HB⟩ := hrel
    by_cases hlt : kk < l0.length
    · have hltz : (kk : Int) < (l0.length : Int) := by omega
      obtain ⟨ad, e, hx0, hx1⟩ := at_T47 HR.out (kk : Int) (by omega) hltz
      cases e
      replace hx0 := (HB.out.cell (World.block_lt_of_cell? w _ hx0)).trans hx0
      replace hx1 := (HB.out.cell (World.block_lt_of_cell? w _ hx1)).trans hx1
      have hget : rd_T47 l0 (kk : Int) = l0[kk] := by unfold rd_T47; rw [Int.toNat_natCast, List.getD_eq_getElem?_getD, List.getElem?_eq_getElem hlt]; rfl
      have hs := varsAt_snoc l0 kk hlt
      rw [← hget] at hs
      obtain ⟨y, hy⟩ : ∃ y, rd_T47 l0 (kk : Int) = y := ⟨_, rfl⟩
      rw [hy] at hx0 hx1 hs
      clear hy hget
      rw [Int.toNat_natCast] at hx0 hx1
      have hvl := varsAt_len (l0.take kk)
      rw [List.length_take] at hvl
      by_cases hq : y.f0 = 2
      · rw [if_pos hq] at hs
        have HS := Aside0.mk hs
        have hq0 : (y.f0 == 2) = true := beq_iff_eq.mpr hq
        clear hs hq
        obtain ⟨A2, c2, e2⟩ := Kd.R_slice HV.out
        subst e2
        go_wp2_with ((with_reducible refine gate_builtin (b := .append) (xs := #[.tmp 16, .tmp 20]) rfl ?_); at_builtin; refine Kd.R_append (Kd.int .i64) (w0 := w) w.heap.size rfl (.tmp 16) (.tmp 20) 39 3 (.int .i64 0) 8 rfl Try.underlying39 info3 rfl (by decide) (by omega) _ (varsAt (l0.take kk)) (wrap64 y.f1) [.int .i64 (wrap64 y.f1)] (fun _ => True) (fun _ => False) rfl (by first | (go_simp; done) | (go_simp; rfl)) ?aP (fun _ hk => hk.elim) ?aF ?aO ?aB ?aS ?aL ?_; (case aP => exact rfl); (case aF => exact fun _ _ => trivial); (case aO => (with_reducible repeat (first | apply Kd.R_alloc | apply Kd.R_drewN | apply Kd.R_drew)); exact HV.out); (case aB => repeat (first | (with_reducible first | exact HB.out | apply below_alloc | apply pw_below_drewN | apply below_drew1) | exact HB.out)); (case aS => exact below_size (qB)); (case aL => omega); intro v3 w3 hv hb hg_ ha_; clear hg_ ha_; have HV3 := Aside0.mk hv; have HB3 := Aside0.mk hb; clear hv hb)
        go_roundg (l0.length - (kk + 1))
        case measure => omega
        case rel => exact ⟨kk + 1, by omega, by omega, by go_num, ⟨by rw [HS.out]; exact HV3.out⟩, HB3⟩
      · rw [if_neg hq, List.append_nil] at hs
        have HS := Aside0.mk hs
        have hq0 : (y.f0 == 2) = false := beq_eq_false_iff_ne.mpr hq
        clear hs hq
        go_wp2
        go_roundg (l0.length - (kk + 1))
        case measure => omega
        case rel => exact ⟨kk + 1, by omega, by omega, by go_num, ⟨by rw [HS.out]; (with_reducible repeat (first | apply Kd.R_alloc | apply Kd.R_drewN | apply Kd.R_drew)); exact HV.out⟩, ⟨qB⟩⟩
    · have hltz : ¬ (kk : Int) < (l0.length : Int) := by omega
      obtain rfl : kk = l0.length := by omega
      rw [List.take_length] at HV
      have hvl := varsAt_len l0
      have hsl : ((varsAt l0).mergeSort fun x y => decide (x ≤ y)).length = (varsAt l0).length := List.length_mergeSort _
      have hS := sort_own HV.out (by omega)
      have hbase : w.heap.size ≤ wr.heap.size := below_size HB.out
      have hb0 := Kd.R_base HV.out
      go_wp2_with (first | (go_at_call 61; refine hS.mono ?_; rintro e w1 ⟨rfl, hv, hgr⟩; have HV1 := Aside0.mk hv; have HB1 := Aside0.mk (HB.out.grown hgr hbase hb0); clear hv hgr hS) | (go_at_call 62; refine (compact_own HV1.out (by omega)).mono ?_; rintro e w2 ⟨v2, rfl, hv, hgr⟩; have HV2 := Aside0.mk hv; have HB2 := Aside0.mk (HB1.out.grown hgr (below_size HB1.out) (Kd.R_base HV1.out)); clear hv hgr))
      go_ret
      exact ⟨_, rfl, HV2.out, HB2.out⟩

end Go.Proofs.Ythageckjjbgonaa.X
