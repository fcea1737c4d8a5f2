/- Each Go function as a Lean function, with the proof that the call comes to just its answer; or a law's row out of its pure statement. Conditions: the arguments are of their kinds. Written by this session's program wip/xp/xp.sh. -/
import Derived.Test.YtckdgmbmjfhodaaDoorX0
namespace Go.Proofs.YtckdgmbmjfhodaaDoor.X
open Go.RowKit Go.Proofs.YtckdgmbmjfhodaaDoorW.PrintWords Go.Proofs.YtckdgmbmjfhodaaDoorW.PrintLast Go.Proofs.YtckdgmbmjfhodaaDoorW.PrintMore
attribute [local go_sem] max2_int min2_int max_two min_two max_three min_three max_four min_four   -- for this text's walks alone
set_option linter.unusedVariables false
set_option linter.unusedSimpArgs false

-- HAND
/-! ### impl_GoodTerm_any: the contract of function 25 at function 26 -/
/-- 'slices.ContainsFunc(stack[rest:], func(own int) bool { return own != kind })': is there another than kind? -/
def impl_GoodTerm_any.f (l : List Int) (kind : Int) : Option (Bool) := some (l.any fun x => x != kind)
theorem impl_GoodTerm_any.pred (x a1 : Int) (B : Nat) (W : World) (hc : W.cell? ⟨B, 0, none⟩ = some (.int .i64 a1)) :
    Calls Tryd.prog 26 #[.int .i64 x, .pointer (some ⟨B, 0, none⟩)] W fun e w' => e = .returned (.bool (x != a1)) ∧ W = w' := by
  go_enter Tryd.func26, Tryd.ntmps26
  go_wp2
  go_ret
  exact ⟨rfl, rfl⟩
set_option maxHeartbeats 2000000 in
theorem impl_GoodTerm_any.index (A0 : Option Addr) (c0 : Nat) (l0 : List Int) (B : Nat) (a1 : Int) (w : World) (hr0 : Kd.C (Kd.int .i64) w A0 l0.length l0) (hc0 : l0.length ≤ c0)
    (hx : w.cell? ⟨B, 0, none⟩ = some (.int .i64 a1)) :
    Calls Tryd.prog 34 #[.slice A0 l0.length c0, .func (.func 26) #[] #[.pointer (some ⟨B, 0, none⟩)]] w
      fun e w' => (∃ n : Int, e = .returned (.int .i64 n) ∧ decide (n ≥ 0) = l0.any fun x => x != a1) ∧ Drawn0 w w' := by
  have hm := hr0.2.1
  have HR := Aside0.mk hr0
  clear hr0
  have hcall : ∀ (x : Int) (q : Nat), Calls Tryd.prog 26 #[.int .i64 x, .pointer (some ⟨B, 0, none⟩)] (w.drewN q) fun e w' => e = .returned (.bool (x != a1)) ∧ w.drewN q = w' :=
    fun x q => impl_GoodTerm_any.pred x a1 B _ hx
  clear hx
  go_enter Tryd.func34, Tryd.ntmps34
  go_wp2
  go_loopg [5, 8] l0.length (fun gg _ s8 wr => ∃ kk q : Nat, kk ≤ l0.length ∧ l0.length - kk ≤ gg ∧ s8 = .int .i64 kk ∧ wr = w.drewN q ∧ Aside0 ((l0.take kk).any (fun x => x != a1) = false))
  case atStart => exact ⟨0, 0, Nat.zero_le _, by omega, rfl, rfl, ⟨rfl⟩⟩
  case round =>
    obtain ⟨kk, q, hkk, hg, rfl, rfl, HA⟩ := hrel
    by_cases hlt : kk < l0.length
    · have hltz : (kk : Int) < (l0.length : Int) := by omega
      obtain ⟨ad, e, hcell⟩ := Kd.at_int HR.out (kk : Int) (by omega) hltz
      cases e
      have hy : ∃ y, rd l0 (kk : Int) = y := ⟨_, rfl⟩
      obtain ⟨y, hy⟩ := hy
      rw [hy] at hcell
      rw [Int.toNat_natCast] at hcell
      have HY := Aside0.mk hy
      clear hy
      have hone := hcall y
      cases hq : (y != a1) with
      | true =>
        rw [hq] at hone
        go_wp2_with (go_at_call 26; refine (hone _).mono ?_; rintro e w' ⟨rfl, rfl⟩)
        go_ret
        exact ⟨⟨_, rfl, by have h1 := HY.out; simp only [rd, Int.toNat_natCast] at h1; rw [decide_eq_true (by omega)]; symm; rw [List.any_eq_true]; exact ⟨l0.getD kk 0, by rw [List.getD_eq_getElem?_getD, List.getElem?_eq_getElem hlt]; exact List.getElem_mem hlt, by rw [h1]; exact hq⟩⟩, by repeat (first | exact Drawn0.refl _ | apply Drawn0.step)⟩
      | false =>
        rw [hq] at hone
        go_wp2_with (go_at_call 26; refine (hone _).mono ?_; rintro e w' ⟨rfl, rfl⟩)
        go_roundg (l0.length - (kk + 1))
        case measure => omega
        case rel => exact ⟨kk + 1, _, by omega, by omega, by go_num, rfl, ⟨by have h1 := HY.out; simp only [rd, Int.toNat_natCast] at h1; rw [List.take_add_one, List.any_append, HA.out, List.getElem?_eq_getElem hlt]; rw [List.getD_eq_getElem?_getD, List.getElem?_eq_getElem hlt] at h1; simp only [Option.getD_some] at h1; rw [h1]; simp [hq]⟩⟩
    · have hltz : ¬ (kk : Int) < (l0.length : Int) := by omega
      obtain rfl : kk = l0.length := by omega
      go_wp2
      go_ret
      exact ⟨⟨_, rfl, by have := HA.out; rw [List.take_length] at this; rw [this]; rfl⟩, by repeat (first | exact Drawn0.refl _ | apply Drawn0.step)⟩
theorem impl_GoodTerm_any.calls (A0 : Option Addr) (c0 : Nat) (l0 : List Int) (B : Nat) (a1 : Int) (r : Bool) (w : World) (hr0 : Kd.C (Kd.int .i64) w A0 l0.length l0) (hc0 : l0.length ≤ c0)
    (hx : w.heap[B]? = some (.cells #[.int .i64 a1] 3 (0, 0))) (h : impl_GoodTerm_any.f l0 a1 = some r) :
    Calls Tryd.prog 25 #[.slice A0 l0.length c0, .func (.func 26) #[] #[.pointer (some ⟨B, 0, none⟩)]] w
      fun e w' => e = .returned (.bool r) ∧ Drawn0 w w' := by
  obtain rfl := Option.some.inj h
  have hcell : w.cell? ⟨B, 0, none⟩ = some (.int .i64 a1) := (blk_cell hx 0).trans rfl
  have hI := impl_GoodTerm_any.index A0 c0 l0 B a1 w hr0 hc0 hcell
  clear hr0 hx hcell h
  generalize hb : l0.any (fun x => x != a1) = b at hI ⊢
  clear hb
  go_enter Tryd.func25, Tryd.ntmps25
  go_wp2_with (go_at_call 34; refine hI.mono ?_; rintro e w' ⟨⟨n, rfl, hn⟩, ⟨nd, rfl⟩⟩; have HN := Aside0.mk hn; clear hn)
  go_ret
  exact ⟨by have h1 := HN.out; simp only [ge_iff_le] at h1; first | rfl | (rw [h1]; rfl) | rw [h1], by repeat (first | exact Drawn0.refl _ | apply Drawn0.step)⟩

end Go.Proofs.YtckdgmbmjfhodaaDoor.X
