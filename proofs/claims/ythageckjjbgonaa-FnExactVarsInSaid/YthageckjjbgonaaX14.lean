/- Each Go function as a Lean function, with the proof that the call comes to just its answer; or a law's row out of its pure statement. Conditions: the arguments are of their kinds. Written by this session's program wip/xp/xp.sh. -/
import Derived.Test.YthageckjjbgonaaX0
import Derived.Test.YthageckjjbgonaaX13
namespace Go.Proofs.Ythageckjjbgonaa.X
open Go.RowKit Go.Proofs.YthageckjjbgonaaW.PrintWords Go.Proofs.YthageckjjbgonaaW.PrintLast Go.Proofs.YthageckjjbgonaaW.PrintMore
attribute [local go_sem] max2_int min2_int max_two min_two max_three min_three max_four min_four   -- for this text's walks alone
set_option linter.unusedVariables false
set_option linter.unusedSimpArgs false

-- HAND
/-! ### impl_isPlain_any: the contract of function 57 at function 58 -/
/-- One of the four operators that are not translated. -/
def notPlain (x : S47) : Bool := decide (x.f0 = 6 ∨ x.f0 = 7 ∨ x.f0 = 11 ∨ x.f0 = 12)
/-- 'slices.ContainsFunc(t, func(x Node) bool { .. })': is there a node of the four operators that are not translated? -/
def impl_isPlain_any.f (l : List S47) : Option (Bool) := some (l.any notPlain)
theorem impl_isPlain_any.one (a b : Int) : impl_isPlain_1.f a b = some (notPlain ⟨a, b⟩) := by
  show _ = some (decide (a = 6 ∨ a = 7 ∨ a = 11 ∨ a = 12))
  unfold impl_isPlain_1.f
  by_cases h1 : a = 6
  · rw [if_pos h1]; simp [h1]
  · by_cases h2 : a = 7
    · rw [if_neg h1, if_pos h2]; simp [h2]
    · by_cases h3 : a = 11
      · rw [if_neg h1, if_neg h2, if_pos h3]; simp [h3]
      · rw [if_neg h1, if_neg h2, if_neg h3]; congr 1; rw [Bool.eq_iff_iff]; simp [h1, h2, h3]
set_option maxHeartbeats 2000000 in
theorem impl_isPlain_any.index (A0 : Option Addr) (c0 : Nat) (l0 : List S47) (w : World) (hr0 : Kd.C k47 w A0 l0.length l0) (hc0 : l0.length ≤ c0) :
    Calls Try.prog 66 #[.slice A0 l0.length c0, .func (.func 58) #[] #[]] w
      fun e w' => (∃ n : Int, e = .returned (.int .i64 n) ∧ decide (n ≥ 0) = l0.any notPlain) ∧ Below w.heap.size w w' := by
  have hm := hr0.2.1
  have HR := Aside0.mk hr0
  clear hr0
  go_enter Try.func66, Try.ntmps66
  go_wp2
  go_loopg [5, 8] l0.length (fun gg _ s8 wr => ∃ kk : Nat, kk ≤ l0.length ∧ l0.length - kk ≤ gg ∧ s8 = .int .i64 kk ∧ Aside0 (Below w.heap.size w wr) ∧ Aside0 ((l0.take kk).any notPlain = false))
  case atStart => exact ⟨0, Nat.zero_le _, by omega, rfl, ⟨Below.refl _ _⟩, ⟨rfl⟩⟩
  case round =>
    obtain ⟨kk, hkk, hg, rfl, HB, HA⟩ := hrel
    by_cases hlt : kk < l0.length
    · have hltz : (kk : Int) < (l0.length : Int) := by omega
      obtain ⟨ad, e, hx0, hx1⟩ := at_T47 HR.out (kk : Int) (by omega) hltz
      cases e
      replace hx0 := (HB.out.cell (World.block_lt_of_cell? w _ hx0)).trans hx0
      replace hx1 := (HB.out.cell (World.block_lt_of_cell? w _ hx1)).trans hx1
      obtain ⟨y, hy⟩ : ∃ y, rd_T47 l0 (kk : Int) = y := ⟨_, rfl⟩
      rw [hy] at hx0 hx1
      rw [Int.toNat_natCast] at hx0 hx1
      have HY := Aside0.mk hy
      clear hy
      have hone := fun W => impl_isPlain_1.calls y.f0 y.f1 _ W (impl_isPlain_any.one y.f0 y.f1)
      have hget : rd_T47 l0 (kk : Int) = l0[kk] := by unfold rd_T47; rw [Int.toNat_natCast, List.getD_eq_getElem?_getD, List.getElem?_eq_getElem hlt]; rfl
      have HG := Aside0.mk (hget.symm.trans HY.out)
      clear hget HY
      obtain ⟨q, hq⟩ : ∃ q, notPlain y = q := ⟨_, rfl⟩
      rw [hq] at hone
      have HQ := Aside0.mk hq
      clear hq
      cases q with
      | true =>
        go_wp2_with (go_at_call 58; refine (hone _).mono ?_; rintro e w' ⟨rfl, hb⟩; have HB2 := Aside0.mk (below_step HB.out hb); clear hb)
        go_ret
        exact ⟨⟨_, rfl, by rw [decide_eq_true (by omega)]; symm; rw [List.any_eq_true]; exact ⟨l0[kk], List.getElem_mem hlt, by rw [HG.out]; exact HQ.out⟩⟩, HB2.out⟩
      | false =>
        go_wp2_with (go_at_call 58; refine (hone _).mono ?_; rintro e w' ⟨rfl, hb⟩; have HB2 := Aside0.mk (below_step HB.out hb); clear hb)
        go_roundg (l0.length - (kk + 1))
        case measure => omega
        case rel => exact ⟨kk + 1, by omega, by omega, by go_num, HB2, ⟨by rw [List.take_add_one, List.any_append, HA.out, List.getElem?_eq_getElem hlt, Option.toList_some, HG.out]; simp only [List.any_cons, List.any_nil, HQ.out]; rfl⟩⟩
    · have hltz : ¬ (kk : Int) < (l0.length : Int) := by omega
      obtain rfl : kk = l0.length := by omega
      go_wp2
      go_ret
      exact ⟨⟨_, rfl, by have := HA.out; rw [List.take_length] at this; rw [this]; rfl⟩, HB.out⟩
theorem impl_isPlain_any.calls (A0 : Option Addr) (c0 : Nat) (l0 : List S47) (r : Bool) (w : World) (hr0 : Kd.C k47 w A0 l0.length l0) (hc0 : l0.length ≤ c0)
    (h : impl_isPlain_any.f l0 = some r) :
    Calls Try.prog 57 #[.slice A0 l0.length c0, .func (.func 58) #[] #[]] w
      fun e w' => e = .returned (.bool r) ∧ Below w.heap.size w w' := by
  obtain rfl := Option.some.inj h
  have hI := impl_isPlain_any.index A0 c0 l0 w hr0 hc0
  clear hr0 h
  generalize hb : l0.any notPlain = b at hI ⊢
  clear hb
  go_enter Try.func57, Try.ntmps57
  go_wp2_with (go_at_call 66; refine hI.mono ?_; rintro e w' ⟨⟨n, rfl, hn⟩, hb⟩; have HN := Aside0.mk hn; have HB := Aside0.mk hb; clear hn hb)
  go_ret
  exact ⟨by have h1 := HN.out; simp only [ge_iff_le] at h1; first | rfl | (rw [h1]; rfl) | rw [h1], HB.out⟩

end Go.Proofs.Ythageckjjbgonaa.X
