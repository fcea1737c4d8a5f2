/- Each Go function as a Lean function, with the proof that the call comes to just its answer; or a law's row out of its pure statement. Conditions: the arguments are of their kinds. Written by this session's program wip/xp/xp.sh. -/
import Derived.Test.YtifapbeoaakaaaaX0
import Derived.Test.YtifapbeoaakaaaaX3
namespace Go.Proofs.Ytifapbeoaakaaaa.X
open Go.RowKit Go.Proofs.YtifapbeoaakaaaaW.PrintWords Go.Proofs.YtifapbeoaakaaaaW.PrintLast Go.Proofs.YtifapbeoaakaaaaW.PrintMore
attribute [local go_sem] max2_int min2_int max_two min_two max_three min_three max_four min_four   -- for this text's walks alone
set_option linter.unusedVariables false
set_option linter.unusedSimpArgs false

-- HAND
/-! ### impl_isState_any: the contract of function 21 at function 22 -/
/-- Is there an element of which p says yes? -/
def impl_isState_any.any {α : Type} (p : α → Option Bool) : List α → Option Bool
  | [] => some false
  | x :: t => (p x).bind fun b => if b = true then some true else impl_isState_any.any p t
def impl_isState_any.p (a1 : Int) (x : Int) : Option Bool := (impl_GoodWord.f a1 x).bind fun b => some (!b)
def impl_isState_any.f (l : List Int) (a1 : Int) : Option (Bool) := impl_isState_any.any (impl_isState_any.p a1) l
theorem impl_isState_any.pred (B1 : Nat) (a1 : Int) (x : Int) (W : World) (b : Bool) (hx1 : W.heap[B1]? = some (.cells #[.int .i64 a1] 3 (0, 0))) (h : impl_isState_any.p a1 x = some b) :
    Calls Try.prog 22 #[.int .u64 x, .pointer (some ⟨B1, 0, none⟩)] W fun e w' => e = .returned (.bool b) ∧ Below W.heap.size W w' := by
  have hc : W.cell? ⟨B1, 0, none⟩ = some (.int .i64 a1) := (blk_cell hx1 0).trans rfl
  obtain ⟨g, hg, h2⟩ := Option.bind_eq_some_iff.mp h
  obtain rfl : (!g) = b := Option.some.inj h2
  have HG := Aside0.mk hg
  clear hg h h2 hx1
  go_enter Try.func22, Try.ntmps22
  go_wp2_with (go_at_call 23; (with_reducible refine (impl_GoodWord.calls _ _ g _ HG.out).mono ?_); rintro e w' ⟨rfl, hd⟩; have HD := Aside0.mk hd; clear hd)
  go_ret
  exact ⟨rfl, by first | exact HD.out | exact HD.out.below | (obtain rfl := HD.out; exact Below.refl _ _)⟩
set_option maxHeartbeats 4000000 in
theorem impl_isState_any.index (A0 : Option Addr) (c0 : Nat) (l0 : List Int) (B1 : Nat) (a1 : Int) (r : Bool) (w : World) (hr0 : Kd.C (Kd.int .u64) w A0 l0.length l0) (hc0 : l0.length ≤ c0) (hx1 : w.heap[B1]? = some (.cells #[.int .i64 a1] 3 (0, 0))) (h : impl_isState_any.any (impl_isState_any.p a1) l0 = some r) :
    Calls Try.prog 26 #[.slice A0 l0.length c0, .func (.func 22) #[] #[.pointer (some ⟨B1, 0, none⟩)]] w
      fun e w' => (∃ n : Int, e = .returned (.int .i64 n) ∧ decide (n ≥ 0) = r) ∧ Below w.heap.size w w' := by
  have hm := hr0.2.1
  have HR := Aside0.mk hr0
  have HH := Aside0.mk h
  clear hr0 h
  have hone : ∀ (x : Int) (W : World), Below w.heap.size w W → ∀ b, (impl_isState_any.p a1) x = some b → Calls Try.prog 22 #[.int .u64 x, .pointer (some ⟨B1, 0, none⟩)] W fun e w' => e = .returned (.bool b) ∧ Below W.heap.size W w' :=
    fun x W hb b h => impl_isState_any.pred B1 a1 x W b ((hb.block _ (blk_lt hx1)).trans hx1) h
  have HO := Aside0.mk hone
  clear hone hx1
  go_enter Try.func26, Try.ntmps26
  go_wp2
  go_loopg [5, 8] l0.length (fun gg _ s8 wr => ∃ kk : Nat, kk ≤ l0.length ∧ l0.length - kk ≤ gg ∧ s8 = .int .i64 kk ∧ Aside0 (Below w.heap.size w wr) ∧ Aside0 (impl_isState_any.any (impl_isState_any.p a1) (l0.drop kk) = some r))
  case atStart => exact ⟨0, Nat.zero_le _, by omega, rfl, ⟨Below.refl _ _⟩, HH⟩
  case round =>
    clear HH
    obtain ⟨kk, hkk, hg, rfl, HB, HA⟩ := hrel
    by_cases hlt : kk < l0.length
    · have hltz : (kk : Int) < (l0.length : Int) := by omega
      have h1 := HA.out
      rw [List.drop_eq_getElem_cons hlt] at h1
      unfold impl_isState_any.any at h1
      obtain ⟨ad, e, hcell⟩ := Kd.at_int HR.out (kk : Int) (by omega) hltz
      cases e
      replace hcell := (HB.out.cell (World.block_lt_of_cell? w _ hcell)).trans hcell
      obtain ⟨y, hy⟩ : ∃ y, rd l0 (kk : Int) = y := ⟨_, rfl⟩
      have hget : rd l0 (kk : Int) = l0[kk] := by unfold rd; rw [Int.toNat_natCast, List.getD_eq_getElem?_getD, List.getElem?_eq_getElem hlt]; rfl
      rw [hy] at hcell hget
      clear hy
      rw [Int.toNat_natCast] at hcell
      rw [← hget] at h1
      clear hget
      obtain ⟨q, hq, h2⟩ := Option.bind_eq_some_iff.mp h1
      clear h1
      have HQ := Aside0.mk hq
      clear hq
      cases q with
      | true =>
        have h3 : true = r := by simpa using h2
        have H3 := Aside0.mk h3
        clear h2 h3
        go_wp2_with (go_at_call 22; refine ((HO.out y _ HB.out _ HQ.out)).mono ?_; rintro e w' ⟨rfl, hb⟩; have HB2 := Aside0.mk (below_step HB.out hb); clear hb)
        go_ret
        exact ⟨⟨_, rfl, by rw [← H3.out]; exact decide_eq_true (by omega)⟩, HB2.out⟩
      | false =>
        have h3 : impl_isState_any.any (impl_isState_any.p a1) (l0.drop (kk + 1)) = some r := by simpa using h2
        have H3 := Aside0.mk h3
        clear h2 h3
        go_wp2_with (go_at_call 22; refine ((HO.out y _ HB.out _ HQ.out)).mono ?_; rintro e w' ⟨rfl, hb⟩; have HB2 := Aside0.mk (below_step HB.out hb); clear hb)
        go_roundg (l0.length - (kk + 1))
        case measure => omega
        case rel => exact ⟨kk + 1, by omega, by omega, by go_num, HB2, H3⟩
    · have hltz : ¬ (kk : Int) < (l0.length : Int) := by omega
      obtain rfl : kk = l0.length := by omega
      go_wp2
      go_ret
      exact ⟨⟨_, rfl, by have h4 := HA.out; rw [List.drop_length] at h4; unfold impl_isState_any.any at h4; rw [← Option.some.inj h4]; rfl⟩, HB.out⟩
theorem impl_isState_any.calls (A0 : Option Addr) (c0 : Nat) (l0 : List Int) (B1 : Nat) (a1 : Int) (r : Bool) (w : World) (hr0 : Kd.C (Kd.int .u64) w A0 l0.length l0) (hc0 : l0.length ≤ c0) (hx1 : w.heap[B1]? = some (.cells #[.int .i64 a1] 3 (0, 0))) (h : impl_isState_any.f l0 a1 = some r) :
    Calls Try.prog 21 #[.slice A0 l0.length c0, .func (.func 22) #[] #[.pointer (some ⟨B1, 0, none⟩)]] w
      fun e w' => e = .returned (.bool r) ∧ Below w.heap.size w w' := by
  have hI := impl_isState_any.index A0 c0 l0 B1 a1 r w hr0 hc0 hx1 h
  clear hr0 h hx1
  go_enter Try.func21, Try.ntmps21
  go_wp2_with (go_at_call 26; refine hI.mono ?_; rintro e w' ⟨⟨n, rfl, hn⟩, hb⟩; have HN := Aside0.mk hn; have HB := Aside0.mk hb; clear hn hb)
  go_ret
  exact ⟨by have h1 := HN.out; simp only [ge_iff_le] at h1; first | rfl | (rw [h1]; rfl) | rw [h1], HB.out⟩

end Go.Proofs.Ytifapbeoaakaaaa.X
