/- Each Go function as a Lean function, with the proof that the call comes to just its answer; or a law's row out of its pure statement. Conditions: the arguments are of their kinds. Written by this session's program wip/xp/xp.sh. -/
import Derived.Test.YthageckjjbgonaaX0
namespace Go.Proofs.Ythageckjjbgonaa.X
open Go.RowKit Go.Proofs.YthageckjjbgonaaW.PrintWords Go.Proofs.YthageckjjbgonaaW.PrintLast Go.Proofs.YthageckjjbgonaaW.PrintMore
attribute [local go_sem] max2_int min2_int max_two min_two max_three min_three max_four min_four   -- for this text's walks alone
set_option linter.unusedVariables false
set_option linter.unusedSimpArgs false

-- HAND
/-! ### slices_Concat_impl_Node: function 47 -/
/-- Rows one behind the other; at least one element, and no more than a million. -/
def slices_Concat_impl_Node.f (l0 : List (List S47)) : Option (List (S47)) := if 1 ≤ l0.flatten.length ∧ l0.flatten.length ≤ 1000000 then some l0.flatten else none
theorem flat_take {α : Type} (l : List (List α)) (kk : Nat) (h : kk < l.length) : (l.take (kk + 1)).flatten = (l.take kk).flatten ++ l[kk] := by
  rw [List.take_add_one, List.flatten_append, List.getElem?_eq_getElem h]; simp
theorem flat_le {α : Type} (l : List (List α)) (kk : Nat) : (l.take kk).flatten.length ≤ l.flatten.length := by
  have h := congrArg (fun x => x.flatten.length) (List.take_append_drop kk l)
  simp only [List.flatten_append, List.length_append] at h
  omega
set_option maxHeartbeats 4000000 in
theorem slices_Grow_nil.calls (n : Nat) (h1n : 1 ≤ n) (hn : n ≤ 1000000000) (w : World) :
    Calls Try.prog 59 #[.slice none 0 0, .int .i64 n] w fun e w' => ∃ v, e = .returned v ∧ Kd.R k47 47 w' w.heap.size (fun _ => True) v ([] : List S47) ∧ Below w.heap.size w w' := by
  have h0 : decide ((n : Int) < 0) = false := decide_eq_false (by omega)
  have h1 : decide ((n : Int) > 0) = true := decide_eq_true (by omega)
  have h2 : 0 < n := h1n
  go_enter Try.func59, Try.ntmps59
  go_wp2_with (at_builtin; refine Kd.R_append_zeros k47 (w0 := w) w.heap.size rfl (.tmp 20) (.tmp 21) 25 3 47 (.agg #[(.int .i64 0), (.int .u64 0)]) 16 rfl Try.underlying25 Try.underlying3 info47 rfl (by decide) (by omega) (.slice none 0 0) ([] : List S47) z47 (n : Int) (fun _ => True) rfl rfl (k47_mkM _ _ _ z47) (fun _ _ => trivial) (Kd.R_nil _ _ _ _ _) (by omega) (Below.refl _ _) (Nat.le_refl _) (by simp; omega) ?_; intro v1 w1 hR hB hg ha; obtain ⟨A1, c1, e1, hl, _⟩ := Kd.R_reads hR; subst e1; have HRR := Aside0.mk hR; have HBB := Aside0.mk hB; clear hR hB hg ha; generalize (([] : List S47) ++ List.replicate (n : Int).toNat z47).length = m at *)
  go_ret
  exact ⟨_, rfl, Kd.R_take HRR.out (Nat.zero_le _), HBB.out⟩
set_option maxHeartbeats 8000000 in
theorem slices_Concat_impl_Node.calls (A0 : Option Addr) (c0 : Nat) (l0 : List (List (S47))) (r : List (S47)) (w : World) (hr0 : Kd.C (Kd.slice 47 k47) w A0 l0.length l0) (hc0 : l0.length ≤ c0) (h : slices_Concat_impl_Node.f l0 = some r) :
    Calls Try.prog 47 #[.slice A0 l0.length c0] w fun e w' => ∃ v0_ : Value, e = .returned (v0_) ∧ Kd.R k47 47 w' w.heap.size (fun _ => True) v0_ r ∧ Below w.heap.size w w' := by
  unfold slices_Concat_impl_Node.f at h
  split at h
  case isFalse => cases h
  rename_i hh
  obtain ⟨h1, h2⟩ := hh
  obtain rfl := Option.some.inj h
  have hm := hr0.2.1
  have HR := Aside0.mk hr0
  clear hr0 h
  go_enter Try.func47, Try.ntmps47
  go_wp2
  go_loopg [3, 11] l0.length (fun gg v3 v11 wr => ∃ kk : Nat, kk ≤ l0.length ∧ l0.length - kk ≤ gg ∧ v3 = .int .i64 ((l0.take kk).flatten.length : Int) ∧ v11 = .int .i64 kk ∧ Aside0 (Below w.heap.size w wr))
  case atStart => exact ⟨0, Nat.zero_le _, by omega, rfl, rfl, ⟨Below.refl _ _⟩⟩
  case round =>
    obtain ⟨kk, hkk, hg, rfl, rfl, HB⟩ := hrel
    by_cases hlt : kk < l0.length
    · have hltz : (kk : Int) < (l0.length : Int) := by omega
      obtain ⟨ad, cs, e, hcsl, hK, hcs⟩ := Kd.C_get HR.out ([] : List S47) (kk : Int) (by omega) hltz
      cases e
      obtain ⟨A1, c1, rfl, hl1, hr1⟩ := hK
      have hcell : w.cell? (ad.add (kk : Int).toNat) = some (.slice A1 (l0.getD (kk : Int).toNat []).length c1) := by have hq := hcs 0 _ rfl; rwa [show (Kd.slice 47 k47).sz = 1 from rfl, Nat.mul_one, Nat.add_zero] at hq
      clear hcs hcsl
      replace hcell := (HB.out.cell (World.block_lt_of_cell? w _ hcell)).trans hcell
      replace hr1 := Kd.C_below hr1 HB.out
      have hget : l0.getD (kk : Int).toNat [] = l0[kk] := by rw [Int.toNat_natCast, List.getD_eq_getElem?_getD, List.getElem?_eq_getElem hlt]; rfl
      have hsum := flat_take l0 kk hlt
      rw [← hget] at hsum
      obtain ⟨y, hy⟩ : ∃ y, l0.getD (kk : Int).toNat [] = y := ⟨_, rfl⟩
      rw [hy] at hcell hl1 hr1 hsum
      clear hy hget
      rw [Int.toNat_natCast] at hcell
      have hle := flat_le l0 (kk + 1)
      rw [hsum, List.length_append] at hle
      have HS := Aside0.mk hsum
      have HR1 := Aside0.mk hr1
      clear hr1 hsum
      generalize hn : (l0.take kk).flatten.length = n at hle ⊢
      have HN := Aside0.mk hn
      clear hn
      have hneg : decide ((n : Int) + (y.length : Int) < 0) = false := decide_eq_false (by omega)
      go_wp2
      go_roundg (l0.length - (kk + 1))
      case measure => omega
      case rel => exact ⟨kk + 1, by omega, by omega, by rw [HS.out, List.length_append, HN.out]; go_num, by go_num, ⟨qB⟩⟩
    · have hltz : ¬ (kk : Int) < (l0.length : Int) := by omega
      obtain rfl : kk = l0.length := by omega
      rw [List.take_length]
      clear hkk hg
      generalize hn : l0.flatten.length = n at h1 h2 ⊢
      have HN := Aside0.mk hn
      clear hn
      go_wp2_with (go_at_call 59; (with_reducible refine (slices_Grow_nil.calls n h1 (by omega) _).mono ?_); rintro e w1 ⟨v, rfl, hv, hb⟩; have HV := Aside0.mk hv; have HB1 := Aside0.mk hb; clear hv hb)
      go_loopg [6, 27] l0.length (fun gg v6 v27 wr2 => ∃ kk : Nat, kk ≤ l0.length ∧ l0.length - kk ≤ gg ∧ v27 = .int .i64 kk ∧ Aside0 (Kd.R k47 47 wr2 w.heap.size (fun _ => True) v6 (l0.take kk).flatten) ∧ Aside0 (Below w.heap.size w wr2))
      case atStart => exact ⟨0, Nat.zero_le _, by omega, rfl, ⟨Kd.R_lower HV.out (below_size HB.out)⟩, ⟨below_step HB.out HB1.out⟩⟩
      case round =>
        obtain ⟨kk, hkk, hg, rfl, HV2, HB2⟩ := hrel
        clear HV HB HB1
        by_cases hlt : kk < l0.length
        · have hltz : (kk : Int) < (l0.length : Int) := by omega
          obtain ⟨ad, cs, e, hcsl, hK, hcs⟩ := Kd.C_get HR.out ([] : List S47) (kk : Int) (by omega) hltz
          cases e
          obtain ⟨A1, c1, rfl, hl1, hr1⟩ := hK
          have hcell : w.cell? (ad.add (kk : Int).toNat) = some (.slice A1 (l0.getD (kk : Int).toNat []).length c1) := by have hq := hcs 0 _ rfl; rwa [show (Kd.slice 47 k47).sz = 1 from rfl, Nat.mul_one, Nat.add_zero] at hq
          clear hcs hcsl
          replace hcell := (HB2.out.cell (World.block_lt_of_cell? w _ hcell)).trans hcell
          replace hr1 := Kd.C_below hr1 HB2.out
          have hget : l0.getD (kk : Int).toNat [] = l0[kk] := by rw [Int.toNat_natCast, List.getD_eq_getElem?_getD, List.getElem?_eq_getElem hlt]; rfl
          have hsum := flat_take l0 kk hlt
          rw [← hget] at hsum
          obtain ⟨y, hy⟩ : ∃ y, l0.getD (kk : Int).toNat [] = y := ⟨_, rfl⟩
          rw [hy] at hcell hl1 hr1 hsum
          clear hy hget
          rw [Int.toNat_natCast] at hcell
          have hle := flat_le l0 (kk + 1)
          rw [hsum, List.length_append] at hle
          have HS := Aside0.mk hsum
          have HR1 := Aside0.mk hr1
          clear hr1 hsum
          rw [HN.out] at hle
          obtain ⟨A2, c2, e2⟩ := Kd.R_slice HV2.out
          subst e2
          go_wp2_with ((with_reducible refine gate_builtin (b := .append) (xs := #[.tmp 31, .tmp 32]) rfl ?_); at_builtin; refine Kd.R_append_rows k47 (w0 := w) w.heap.size rfl (.tmp 31) (.tmp 32) 25 47 (.agg #[(.int .i64 0), (.int .u64 0)]) 16 rfl Try.underlying25 info47 rfl (by decide) (by omega) _ (l0.take kk).flatten y _ _ _ (fun _ => True) (fun _ => False) rfl rfl ?aO ?aR (fun _ _ h => h) (fun _ h => h.elim) (fun _ _ => trivial) ?aB ?aS (by omega) ?_; (case aO => (with_reducible repeat (first | apply Kd.R_alloc | apply Kd.R_drewN | apply Kd.R_drew)); exact HV2.out); (case aR => exact qC HR1.out); (case aB => repeat (first | (with_reducible first | exact HB2.out | apply below_alloc | apply pw_below_drewN | apply below_drew1) | exact HB2.out)); (case aS => exact below_size (by repeat (first | (with_reducible first | exact HB2.out | apply below_alloc | apply pw_below_drewN | apply below_drew1) | exact HB2.out))); intro v3 w3 hv hb hg_ ha_; clear hg_ ha_; have HV3 := Aside0.mk hv; have HB3 := Aside0.mk hb; clear hv hb)
          go_roundg (l0.length - (kk + 1))
          case measure => omega
          case rel => exact ⟨kk + 1, by omega, by omega, by go_num, ⟨by rw [HS.out]; exact HV3.out⟩, HB3⟩
        · have hltz : ¬ (kk : Int) < (l0.length : Int) := by omega
          obtain rfl : kk = l0.length := by omega
          rw [List.take_length] at HV2
          go_wp2
          go_ret
          exact ⟨_, rfl, HV2.out, HB2.out⟩

end Go.Proofs.Ythageckjjbgonaa.X
