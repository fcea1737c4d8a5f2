/- Each Go function as a Lean function, with the proof that the call comes to just its answer; or a law's row out of its pure statement. Conditions: the arguments are of their kinds. Written by this session's program wip/xp/xp.sh. -/
import Derived.Test.YtkafeohhljdohaaX0
import Derived.Test.YtkafeohhljdohaaX3
namespace Go.Proofs.Ytkafeohhljdohaa.X
open Go.RowKit Go.Proofs.YtkafeohhljdohaaW.PrintWords Go.Proofs.YtkafeohhljdohaaW.PrintLast Go.Proofs.YtkafeohhljdohaaW.PrintMore
attribute [local go_sem] max2_int min2_int max_two min_two max_three min_three max_four min_four   -- for this text's walks alone
set_option linter.unusedVariables false
set_option linter.unusedSimpArgs false

-- HAND
/-! ### impl_tokenAt: function 11 -/
/-- 'impl.tokenAt': how long the token at the front is, 0 where there is none. -/
def tokN (a : ByteArray) : Int := if ((runF digB a a.size 0 : Nat) : Int) < ((runF letB a a.size 0 : Nat) : Int) then ((runF letB a a.size 0 : Nat) : Int) else ((runF digB a a.size 0 : Nat) : Int)
def impl_tokenAt.f (k : Nat) (a : ByteArray) : Option Int :=
  if 1 ≤ a.size ∧ a.size ≤ 1000000 then
    if tokN a > 0 then some (tokN a) else
    (if 2 ≤ a.size then (impl_opOf.f k (a.extract 0 2)).bind fun t => some (decide (t > 0)) else some false).bind fun b => if b = true then some 2 else
      (impl_opOf.f k (a.extract 0 1)).bind fun t => if t > 0 then some 1 else some (if pareB (bt a 0) = true then 1 else 0)
  else none
theorem impl_tokenAt.mono : ∀ a0 k, LeO (impl_tokenAt.f k a0) (impl_tokenAt.f (k + 1) a0) := by
  intro a0 k
  unfold impl_tokenAt.f
  refine LeO.ite (LeO.ite (LeO.refl _) (LeO.bind (LeO.ite (LeO.bind (impl_opOf.mono _ _) fun _ => LeO.refl _) (LeO.refl _)) fun _ => LeO.ite (LeO.refl _) (LeO.bind (impl_opOf.mono _ _) fun _ => LeO.refl _))) (LeO.refl _)
attribute [local go_sem] max2_int max_two
set_option maxHeartbeats 8000000 in
set_option maxRecDepth 100000 in
theorem impl_tokenAt.calls (k : Nat) (a0 : ByteArray) (r : Int) (w : World) (h : impl_tokenAt.f k a0 = some r) :
    Calls Try.prog 11 #[.string a0] w fun e w' => e = .returned (.int .i64 r) ∧ Below w.heap.size w w' := by
  unfold impl_tokenAt.f at h
  split at h
  case isFalse => cases h
  rename_i hs
  have HB := Aside0.mk (Below.refl w.heap.size w)
  have HS := Aside0.mk hs.2
  have HS1 := Aside0.mk hs.1
  have e1 : (1 ≤ (a0.size : Int)) = True := eq_true (by omega)
  have f1 : (1 ≤ a0.size) = True := eq_true (by omega)
  have e1b : decide (1 ≤ (a0.size : Int)) = true := decide_eq_true (by omega)
  obtain ⟨D, hD⟩ : ∃ D : Int, ((runF digB a0 a0.size 0 : Nat) : Int) = D := ⟨_, rfl⟩
  obtain ⟨L, hL⟩ : ∃ L : Int, ((runF letB a0 a0.size 0 : Nat) : Int) = L := ⟨_, rfl⟩
  have hdig : ∀ w : World, Calls Try.prog 17 #[.string a0, .func (.func 18) #[] #[]] w fun e w' => e = .returned (.int .i64 D) ∧ Drawn0 w w' := fun w => by have := runOf_digit a0 w HS.out; rwa [hD] at this
  have hlet : ∀ w : World, Calls Try.prog 17 #[.string a0, .func (.func 19) #[] #[]] w fun e w' => e = .returned (.int .i64 L) ∧ Drawn0 w w' := fun w => by have := runOf_letter a0 w HS.out; rwa [hL] at this
  unfold tokN at h
  rw [hD, hL] at h
  clear hD hL hs
  obtain ⟨n, hn⟩ : ∃ n, (if D < L then L else D) = n := ⟨_, rfl⟩
  rw [hn] at h
  by_cases h0 : n > 0
  · rw [if_pos h0] at h
    obtain rfl := Option.some.inj h
    have h0b : decide (0 < n) = true := decide_eq_true h0
    go_enter Try.func11, Try.ntmps11
    go_wp2_with (first | (go_at_call 17; with_reducible refine (hdig _).mono ?_; rintro e w' ⟨rfl, ⟨nd, rfl⟩⟩; (try first | exact ⟨rfl, _, World.drewN_drewN _ _ _⟩ | exact ⟨rfl, _, Eq.trans (World.drewN_drewN _ _ _) (congrArg (World.drewN _) (Nat.add_assoc _ _ _))⟩)) | (go_at_call 17; with_reducible refine (hlet _).mono ?_; rintro e w' ⟨rfl, ⟨nd, rfl⟩⟩; (try first | exact ⟨rfl, _, World.drewN_drewN _ _ _⟩ | exact ⟨rfl, _, Eq.trans (World.drewN_drewN _ _ _) (congrArg (World.drewN _) (Nat.add_assoc _ _ _))⟩)))
    go_ret
    exact ⟨rfl, qB⟩
  · rw [if_neg h0] at h
    have h0b : decide (0 < n) = false := decide_eq_false h0
    obtain ⟨b, hb0, h⟩ := Option.bind_eq_some_iff.mp h
    have hcon : ∀ w : World, Calls Try.prog 21 #[.string ⟨#[40, 41, 126, 33]⟩, .string (a0.extract 0 1)] w fun e w' => e = .returned (.bool (pareB (bt a0 0))) ∧ w' = w := fun w => contains_one a0 HS1.out w
    obtain ⟨pb, hpb⟩ : ∃ pb, pareB (bt a0 0) = pb := ⟨_, rfl⟩
    rw [hpb] at hcon h
    clear hpb
    by_cases h2 : 2 ≤ a0.size
    · rw [if_pos h2] at hb0
      obtain ⟨t2, A20, hb0⟩ := Option.bind_eq_some_iff.mp hb0
      have A2 := Aside0.mk A20
      clear A20
      obtain rfl := Option.some.inj hb0
      have c2 : decide (2 ≤ (a0.size : Int)) = true := decide_eq_true (by omega)
      have c2n : decide (2 ≤ a0.size) = true := decide_eq_true h2
      have s2 : (2 ≤ (a0.size : Int)) = True := eq_true (by omega)
      have s2n : (2 ≤ a0.size) = True := eq_true h2
      clear h2 hb0
      by_cases ht2 : t2 > 0
      · rw [if_pos (decide_eq_true ht2)] at h
        obtain rfl := Option.some.inj h
        have ht2b : decide (0 < t2) = true := decide_eq_true ht2
        go_enter Try.func11, Try.ntmps11
        go_wp2_with (first | (go_at_call 17; with_reducible refine (hdig _).mono ?_; rintro e w' ⟨rfl, ⟨nd, rfl⟩⟩; (try first | exact ⟨rfl, _, World.drewN_drewN _ _ _⟩ | exact ⟨rfl, _, Eq.trans (World.drewN_drewN _ _ _) (congrArg (World.drewN _) (Nat.add_assoc _ _ _))⟩)) | (go_at_call 17; with_reducible refine (hlet _).mono ?_; rintro e w' ⟨rfl, ⟨nd, rfl⟩⟩; (try first | exact ⟨rfl, _, World.drewN_drewN _ _ _⟩ | exact ⟨rfl, _, Eq.trans (World.drewN_drewN _ _ _) (congrArg (World.drewN _) (Nat.add_assoc _ _ _))⟩)) | (go_at_call 20; with_reducible refine (impl_opOf.calls k (a0.extract 0 2) t2 _ A2.out).mono ?_; rintro e w2 ⟨rfl, hb⟩; have n1_ := Aside0.mk (below_step qB hb); clear HB hb; have HB := n1_; clear n1_))
        go_ret
        exact ⟨rfl, qB⟩
      · rw [if_neg (by rw [decide_eq_false ht2]; decide)] at h
        have ht2b : decide (0 < t2) = false := decide_eq_false ht2
        obtain ⟨t1, A10, h⟩ := Option.bind_eq_some_iff.mp h
        have A1 := Aside0.mk A10
        clear A10
        by_cases ht1 : t1 > 0
        · rw [if_pos ht1] at h
          obtain rfl := Option.some.inj h
          have ht1b : decide (0 < t1) = true := decide_eq_true ht1
          go_enter Try.func11, Try.ntmps11
          go_wp2_with (first | (go_at_call 17; with_reducible refine (hdig _).mono ?_; rintro e w' ⟨rfl, ⟨nd, rfl⟩⟩; (try first | exact ⟨rfl, _, World.drewN_drewN _ _ _⟩ | exact ⟨rfl, _, Eq.trans (World.drewN_drewN _ _ _) (congrArg (World.drewN _) (Nat.add_assoc _ _ _))⟩)) | (go_at_call 17; with_reducible refine (hlet _).mono ?_; rintro e w' ⟨rfl, ⟨nd, rfl⟩⟩; (try first | exact ⟨rfl, _, World.drewN_drewN _ _ _⟩ | exact ⟨rfl, _, Eq.trans (World.drewN_drewN _ _ _) (congrArg (World.drewN _) (Nat.add_assoc _ _ _))⟩)) | (go_at_call 20; with_reducible refine (impl_opOf.calls k (a0.extract 0 2) t2 _ A2.out).mono ?_; rintro e w2 ⟨rfl, hb⟩; have n1_ := Aside0.mk (below_step qB hb); clear HB hb; have HB := n1_; clear n1_) | (go_at_call 20; with_reducible refine (impl_opOf.calls k (a0.extract 0 1) t1 _ A1.out).mono ?_; rintro e w1 ⟨rfl, hb⟩; have n1_ := Aside0.mk (below_step qB hb); clear HB hb; have HB := n1_; clear n1_))
          go_ret
          exact ⟨rfl, qB⟩
        · rw [if_neg ht1] at h
          have ht1b : decide (0 < t1) = false := decide_eq_false ht1
          obtain rfl := Option.some.inj h
          cases pb with
          | true =>
            go_enter Try.func11, Try.ntmps11
            go_wp2_with (first | (go_at_call 17; with_reducible refine (hdig _).mono ?_; rintro e w' ⟨rfl, ⟨nd, rfl⟩⟩; (try first | exact ⟨rfl, _, World.drewN_drewN _ _ _⟩ | exact ⟨rfl, _, Eq.trans (World.drewN_drewN _ _ _) (congrArg (World.drewN _) (Nat.add_assoc _ _ _))⟩)) | (go_at_call 17; with_reducible refine (hlet _).mono ?_; rintro e w' ⟨rfl, ⟨nd, rfl⟩⟩; (try first | exact ⟨rfl, _, World.drewN_drewN _ _ _⟩ | exact ⟨rfl, _, Eq.trans (World.drewN_drewN _ _ _) (congrArg (World.drewN _) (Nat.add_assoc _ _ _))⟩)) | (go_at_call 20; with_reducible refine (impl_opOf.calls k (a0.extract 0 2) t2 _ A2.out).mono ?_; rintro e w2 ⟨rfl, hb⟩; have n1_ := Aside0.mk (below_step qB hb); clear HB hb; have HB := n1_; clear n1_) | (go_at_call 20; with_reducible refine (impl_opOf.calls k (a0.extract 0 1) t1 _ A1.out).mono ?_; rintro e w1 ⟨rfl, hb⟩; have n1_ := Aside0.mk (below_step qB hb); clear HB hb; have HB := n1_; clear n1_) | (go_at_call 21; with_reducible refine (hcon _).mono ?_; rintro e w' ⟨rfl, rfl⟩))
            go_ret
            exact ⟨rfl, qB⟩
          | false =>
            go_enter Try.func11, Try.ntmps11
            go_wp2_with (first | (go_at_call 17; with_reducible refine (hdig _).mono ?_; rintro e w' ⟨rfl, ⟨nd, rfl⟩⟩; (try first | exact ⟨rfl, _, World.drewN_drewN _ _ _⟩ | exact ⟨rfl, _, Eq.trans (World.drewN_drewN _ _ _) (congrArg (World.drewN _) (Nat.add_assoc _ _ _))⟩)) | (go_at_call 17; with_reducible refine (hlet _).mono ?_; rintro e w' ⟨rfl, ⟨nd, rfl⟩⟩; (try first | exact ⟨rfl, _, World.drewN_drewN _ _ _⟩ | exact ⟨rfl, _, Eq.trans (World.drewN_drewN _ _ _) (congrArg (World.drewN _) (Nat.add_assoc _ _ _))⟩)) | (go_at_call 20; with_reducible refine (impl_opOf.calls k (a0.extract 0 2) t2 _ A2.out).mono ?_; rintro e w2 ⟨rfl, hb⟩; have n1_ := Aside0.mk (below_step qB hb); clear HB hb; have HB := n1_; clear n1_) | (go_at_call 20; with_reducible refine (impl_opOf.calls k (a0.extract 0 1) t1 _ A1.out).mono ?_; rintro e w1 ⟨rfl, hb⟩; have n1_ := Aside0.mk (below_step qB hb); clear HB hb; have HB := n1_; clear n1_) | (go_at_call 21; with_reducible refine (hcon _).mono ?_; rintro e w' ⟨rfl, rfl⟩))
            go_ret
            exact ⟨rfl, qB⟩
    · rw [if_neg h2] at hb0
      obtain rfl := Option.some.inj hb0
      rw [if_neg (by decide)] at h
      have c2 : decide (2 ≤ (a0.size : Int)) = false := decide_eq_false (by omega)
      have c2n : decide (2 ≤ a0.size) = false := decide_eq_false h2
      clear h2 hb0
      obtain ⟨t1, A10, h⟩ := Option.bind_eq_some_iff.mp h
      have A1 := Aside0.mk A10
      clear A10
      by_cases ht1 : t1 > 0
      · rw [if_pos ht1] at h
        obtain rfl := Option.some.inj h
        have ht1b : decide (0 < t1) = true := decide_eq_true ht1
        go_enter Try.func11, Try.ntmps11
        go_wp2_with (first | (go_at_call 17; with_reducible refine (hdig _).mono ?_; rintro e w' ⟨rfl, ⟨nd, rfl⟩⟩; (try first | exact ⟨rfl, _, World.drewN_drewN _ _ _⟩ | exact ⟨rfl, _, Eq.trans (World.drewN_drewN _ _ _) (congrArg (World.drewN _) (Nat.add_assoc _ _ _))⟩)) | (go_at_call 17; with_reducible refine (hlet _).mono ?_; rintro e w' ⟨rfl, ⟨nd, rfl⟩⟩; (try first | exact ⟨rfl, _, World.drewN_drewN _ _ _⟩ | exact ⟨rfl, _, Eq.trans (World.drewN_drewN _ _ _) (congrArg (World.drewN _) (Nat.add_assoc _ _ _))⟩)) | (go_at_call 20; with_reducible refine (impl_opOf.calls k (a0.extract 0 1) t1 _ A1.out).mono ?_; rintro e w1 ⟨rfl, hb⟩; have n1_ := Aside0.mk (below_step qB hb); clear HB hb; have HB := n1_; clear n1_))
        go_ret
        exact ⟨rfl, qB⟩
      · rw [if_neg ht1] at h
        have ht1b : decide (0 < t1) = false := decide_eq_false ht1
        obtain rfl := Option.some.inj h
        cases pb with
        | true =>
          go_enter Try.func11, Try.ntmps11
          go_wp2_with (first | (go_at_call 17; with_reducible refine (hdig _).mono ?_; rintro e w' ⟨rfl, ⟨nd, rfl⟩⟩; (try first | exact ⟨rfl, _, World.drewN_drewN _ _ _⟩ | exact ⟨rfl, _, Eq.trans (World.drewN_drewN _ _ _) (congrArg (World.drewN _) (Nat.add_assoc _ _ _))⟩)) | (go_at_call 17; with_reducible refine (hlet _).mono ?_; rintro e w' ⟨rfl, ⟨nd, rfl⟩⟩; (try first | exact ⟨rfl, _, World.drewN_drewN _ _ _⟩ | exact ⟨rfl, _, Eq.trans (World.drewN_drewN _ _ _) (congrArg (World.drewN _) (Nat.add_assoc _ _ _))⟩)) | (go_at_call 20; with_reducible refine (impl_opOf.calls k (a0.extract 0 1) t1 _ A1.out).mono ?_; rintro e w1 ⟨rfl, hb⟩; have n1_ := Aside0.mk (below_step qB hb); clear HB hb; have HB := n1_; clear n1_) | (go_at_call 21; with_reducible refine (hcon _).mono ?_; rintro e w' ⟨rfl, rfl⟩))
          go_ret
          exact ⟨rfl, qB⟩
        | false =>
          go_enter Try.func11, Try.ntmps11
          go_wp2_with (first | (go_at_call 17; with_reducible refine (hdig _).mono ?_; rintro e w' ⟨rfl, ⟨nd, rfl⟩⟩; (try first | exact ⟨rfl, _, World.drewN_drewN _ _ _⟩ | exact ⟨rfl, _, Eq.trans (World.drewN_drewN _ _ _) (congrArg (World.drewN _) (Nat.add_assoc _ _ _))⟩)) | (go_at_call 17; with_reducible refine (hlet _).mono ?_; rintro e w' ⟨rfl, ⟨nd, rfl⟩⟩; (try first | exact ⟨rfl, _, World.drewN_drewN _ _ _⟩ | exact ⟨rfl, _, Eq.trans (World.drewN_drewN _ _ _) (congrArg (World.drewN _) (Nat.add_assoc _ _ _))⟩)) | (go_at_call 20; with_reducible refine (impl_opOf.calls k (a0.extract 0 1) t1 _ A1.out).mono ?_; rintro e w1 ⟨rfl, hb⟩; have n1_ := Aside0.mk (below_step qB hb); clear HB hb; have HB := n1_; clear n1_) | (go_at_call 21; with_reducible refine (hcon _).mono ?_; rintro e w' ⟨rfl, rfl⟩))
          go_ret
          exact ⟨rfl, qB⟩


-- HAND
/-! ### impl_TokensOf: function 5 -/
/-- 'impl.tokens' with 'impl.tokenAt', and 'impl.TokensOf'. -/
def impl_TokensOf.l0 : Nat → ByteArray → List (S30) → Int → Option ((List (S30)) × Int × Bool)
  | 0, _, _, _ => none
  | k + 1, x0, x5, x6 => if x6 < (x0.size : Int) then (if 0 ≤ x6 then (if (bt x0 x6) = 32 then (impl_TokensOf.l0 k x0 x5 (wrap64 (x6 + 1))) else (if x6 ≤ (x0.size : Int) then ((impl_tokenAt.f k (x0.extract (x6 : Int).toNat x0.size)).bind fun t108 => (if t108 = 0 then (some (([] : List (S30)), x6, false)) else (if x6 ≤ (wrap64 (x6 + t108)) then (if (wrap64 (x6 + t108)) ≤ (x0.size : Int) then (if x5.length < 5864062014805 then (impl_TokensOf.l0 k x0 (x5 ++ [(⟨x6, x0.extract (x6 : Int).toNat ((wrap64 (x6 + t108)) : Int).toNat⟩ : S30)]) (wrap64 (x6 + t108))) else (none)) else (none)) else (none)))) else (none))) else (none)) else (some (x5, 0, true))
def impl_TokensOf.f (k : Nat) (a0 : ByteArray) : Option ((List (S30)) × Int × Bool) := if (a0.size : Int) > 800 then (some (([] : List (S30)), 0, false)) else (impl_TokensOf.l0 k a0 ([] : List (S30)) 0)
theorem impl_TokensOf.mono_l : ∀ k, (∀ y0 y1 y2, LeO (impl_TokensOf.l0 k y0 y1 y2) (impl_TokensOf.l0 (k + 1) y0 y1 y2))
  | 0 => fun _ _ _ r h => by simp [impl_TokensOf.l0] at h
  | k + 1 => by
    have ih0 := impl_TokensOf.mono_l k
    · intro y0 y1 y2
      unfold impl_TokensOf.l0
      repeat' first
      | (with_reducible exact ih0 _ _ _)
      | (with_reducible exact impl_tokenAt.mono _ _)
      | (with_reducible exact LeO.refl _)
      | (with_reducible exact LeO.none _)
      | (with_reducible refine LeO.ite ?_ ?_)
      | (with_reducible refine LeO.bind ?_ (fun _ => ?_))
      | exact ih0 _ _ _
      | exact impl_tokenAt.mono _ _
      | exact LeO.none _
      | refine LeO.ite ?_ ?_
      | refine LeO.bind ?_ (fun _ => ?_)
theorem impl_TokensOf.mono : ∀ a0 k, LeO (impl_TokensOf.f k a0) (impl_TokensOf.f (k + 1) a0) := by
  intro a0 k
  have ih0 := impl_TokensOf.mono_l k
  unfold impl_TokensOf.f
  repeat' first
      | (with_reducible exact ih0 _ _ _)
      | (with_reducible exact impl_tokenAt.mono _ _)
      | (with_reducible exact LeO.refl _)
      | (with_reducible exact LeO.none _)
      | (with_reducible refine LeO.ite ?_ ?_)
      | (with_reducible refine LeO.bind ?_ (fun _ => ?_))
      | exact ih0 _ _ _
      | exact impl_tokenAt.mono _ _
      | exact LeO.none _
      | refine LeO.ite ?_ ?_
      | refine LeO.bind ?_ (fun _ => ?_)
set_option maxHeartbeats 8000000 in
set_option maxRecDepth 100000 in
theorem impl_TokensOf.inner (k : Nat) (a0 : ByteArray) (r1 : List (S30)) (r2 : Int) (r3 : Bool) (w : World) (h : impl_TokensOf.l0 k a0 [] 0 = some (r1, r2, r3)) :
    Calls Try.prog 10 #[.string a0, .func (.func 11) #[] #[]] w fun e w' => ∃ v0_ : Value, e = .returned (.tuple #[v0_, .int .i64 r2, .bool r3]) ∧ Kd.R k30 30 w' w.heap.size (fun _ => True) v0_ r1 ∧ Below w.heap.size w w' := by
  have hu30 := Try.underlying30
  have HB := Aside0.mk (Below.refl w.heap.size w)
  have H' := Aside0.mk h
  clear h
  go_enter Try.func10, Try.ntmps10
  go_wp2_with ((with_reducible refine gate_dst (N := 10) rfl ?_); refine Kd.R_lit k30 _ 30 ?hg (N := 10) ?hd (xs := ([] : List (S30))) (inner := []) (ok := fun _ => True) (okp := fun _ => True) ?hr ?hp (fun _ hk => hk) trivial (Below.refl _ _) (Nat.le_refl _) (by simp) ?_; (case hd => rfl); (case hg => rfl); (case hr => first | (go_simp; done) | (go_simp; rfl)); (case hp => exact (Reps.none _ _)); intro v362 w3 ho4 hb hg_ hnew_; clear hg_ hnew_; have n0_ := Aside0.mk (Kd.R_lower ho4 (below_size (qB))); have n1_ := Aside0.mk (below_step (qB) hb); clear HB; have HO0 := n0_; have HB := n1_; clear n0_ n1_; clear hb ho4)
  go_loopg [7, 8] k (fun kq v7 v8 w' => ∃ (x5_1 : List (S30)) (x6_1 : Int), v8 = .int .i64 x6_1 ∧ Aside0 (impl_TokensOf.l0 kq a0 x5_1 x6_1 = some (r1, r2, r3)) ∧ Aside0 (kq ≤ k) ∧ Aside0 (Kd.R k30 30 w' w.heap.size (fun _ => True) v7 x5_1) ∧ Aside0 (Below w.heap.size w w'))
  case atStart => exact ⟨(([] : List (S30))), (0), qS, H', ⟨Nat.le_refl _⟩, ⟨qR HO0.out⟩, ⟨qB⟩⟩
  case round =>
    clear H'
    try clear c2
    try clear c2b0
    try clear c2b1
    try clear p2
    obtain ⟨x5_1, x6_1, rfl, HA, HK1, HO_5, HB⟩ := hrel
    cases gk with
    | zero => exact absurd HA.out (by simp [impl_TokensOf.l0])
    | succ k1 =>
      have H := HA.out
      clear HA
      simp only [impl_TokensOf.l0] at H
      by_cases c3 : x6_1 < (a0.size : Int)
      · rw [if_pos c3] at H
        have c3b0 : decide (x6_1 < (a0.size : Int)) = true := decide_eq_true c3
        clear c3
        by_cases c4 : 0 ≤ x6_1
        · rw [if_pos c4] at H
          have c4b0 : decide (0 ≤ x6_1) = true := decide_eq_true c4
          clear c4
          by_cases c6 : (bt a0 x6_1) = 32
          · rw [if_pos c6] at H
            have c6b0 : ((bt a0 x6_1) == 32) = true := beq_iff_eq.mpr c6
            have c6b1 : ((bt a0 x6_1) != 32) = false := bne_eq_false_iff_eq.mpr c6
            clear c6
            have H' := Aside0.mk H
            clear H
            have p5 : 0 ≤ (x6_1 : Int) := qD
            have q5 : x6_1 < (a0.size : Int) := qD
            have hx5 := bt_at a0 x6_1
            replace p5 := eq_true p5
            replace q5 := eq_true q5
            go_wp2
            go_roundg k1
            case measure => have := HK1.out; omega
            case rel => exact ⟨(x5_1), (wrap64 (x6_1 + 1)), qS, H', ⟨by have := HK1.out; omega⟩, ⟨qR HO_5.out⟩, ⟨qB⟩⟩
          · rw [if_neg c6] at H
            have c6b0 : ((bt a0 x6_1) == 32) = false := beq_eq_false_iff_ne.mpr c6
            have c6b1 : ((bt a0 x6_1) != 32) = true := bne_iff_ne.mpr c6
            have c7b0 := eq_true (qD : 0 ≤ x6_1)
            by_cases c8 : x6_1 ≤ (a0.size : Int)
            · rw [if_pos c8] at H
              have c8b0 := eq_true c8
              have c8b1 : decide (x6_1 ≤ (a0.size : Int)) = true := decide_eq_true c8
              clear c8
              replace H := Option.bind_eq_some_iff.mp H
              obtain ⟨t108, A90, H⟩ := H
              replace H : (if t108 = 0 then (some (([] : List (S30)), x6_1, false)) else (if x6_1 ≤ (wrap64 (x6_1 + t108)) then (if (wrap64 (x6_1 + t108)) ≤ (a0.size : Int) then (if x5_1.length < 5864062014805 then (impl_TokensOf.l0 k1 a0 (x5_1 ++ [(⟨x6_1, a0.extract (x6_1 : Int).toNat ((wrap64 (x6_1 + t108)) : Int).toNat⟩ : S30)]) (wrap64 (x6_1 + t108))) else (none)) else (none)) else (none))) = some (r1, r2, r3) := H
              have A9 := Aside0.mk A90
              clear A90
              by_cases c10 : t108 = 0
              · rw [if_pos c10] at H
                have c10b0 : (t108 == 0) = true := beq_iff_eq.mpr c10
                have c10b1 : (t108 != 0) = false := bne_eq_false_iff_eq.mpr c10
                clear c10
                simp only [Option.some.injEq, Prod.mk.injEq] at H
                obtain ⟨rfl, rfl, rfl⟩ := H
                have p5 : 0 ≤ (x6_1 : Int) := qD
                have q5 : x6_1 < (a0.size : Int) := qD
                have hx5 := bt_at a0 x6_1
                replace p5 := eq_true p5
                replace q5 := eq_true q5
                go_wp2_with (first | (go_at_call 11; (with_reducible refine (impl_tokenAt.calls k1 (a0.extract (x6_1 : Int).toNat a0.size) t108 _ A9.out).mono ?_); rintro e w11 ⟨rfl, hb⟩; have n0_ := Aside0.mk (Kd.R_below (qR HO_5.out) hb); have n1_ := Aside0.mk (below_step (qB) hb); clear HO_5; clear HB; have HO_5 := n0_; have HB := n1_; clear n0_ n1_; (try clear hb); (try clear hb2); (try clear hk); (try clear hi)))
                go_ret3
                exact ⟨_, qE, by first | exact Kd.R_nil _ _ _ _ _ | exact Kd.N_nil _ _ _ _ _ | exact Kd.V_nil _ _ _ _ _ | exact Kd.Q_nil _ _ _ _ _ | exact Kd.S_nil _ _ _ _ _, qB⟩
              · rw [if_neg c10] at H
                have c10b0 : (t108 == 0) = false := beq_eq_false_iff_ne.mpr c10
                have c10b1 : (t108 != 0) = true := bne_iff_ne.mpr c10
                have c12b0 := eq_true (qD : 0 ≤ x6_1)
                by_cases c13 : x6_1 ≤ (wrap64 (x6_1 + t108))
                · rw [if_pos c13] at H
                  have c13b0 := eq_true c13
                  have c13b1 : decide (x6_1 ≤ (wrap64 (x6_1 + t108))) = true := decide_eq_true c13
                  by_cases c14 : (wrap64 (x6_1 + t108)) ≤ (a0.size : Int)
                  · rw [if_pos c14] at H
                    have c14b0 := eq_true c14
                    have c14b1 : decide ((wrap64 (x6_1 + t108)) ≤ (a0.size : Int)) = true := decide_eq_true c14
                    by_cases c15 : x5_1.length < 5864062014805
                    · rw [if_pos c15] at H
                      have LMc15 := Aside0.mk c15
                      clear c15
                      obtain ⟨y109, hy109⟩ : ∃ y_ : List (S30), y_ = (x5_1 ++ [(⟨x6_1, a0.extract (x6_1 : Int).toNat ((wrap64 (x6_1 + t108)) : Int).toNat⟩ : S30)]) := ⟨_, rfl⟩
                      replace H : (impl_TokensOf.l0 k1 a0 y109 (wrap64 (x6_1 + t108))) = some (r1, r2, r3) := qY hy109 H
                      have Ny109 := Aside0.mk hy109
                      clear hy109
                      have H' := Aside0.mk H
                      clear H
                      have p5 : 0 ≤ (x6_1 : Int) := qD
                      have q5 : x6_1 < (a0.size : Int) := qD
                      have hx5 := bt_at a0 x6_1
                      replace p5 := eq_true p5
                      replace q5 := eq_true q5
                      go_wp2_with (first | (go_at_call 11; (with_reducible refine (impl_tokenAt.calls k1 (a0.extract (x6_1 : Int).toNat a0.size) t108 _ A9.out).mono ?_); rintro e w16 ⟨rfl, hb⟩; have n0_ := Aside0.mk (Kd.R_below (qR HO_5.out) hb); have n1_ := Aside0.mk (below_step (qB) hb); clear HO_5; clear HB; have HO_5 := n0_; have HB := n1_; clear n0_ n1_; (try clear hb); (try clear hb2); (try clear hk); (try clear hi)) | ((with_reducible refine gate_builtin (b := .append) (xs := #[.tmp 29, .tmp 38]) rfl ?_); at_builtin; refine Kd.R_append k30 (w0 := w) w.heap.size rfl (.tmp 29) (.tmp 38) 22 30 (.agg #[(.int .i64 0), (.string ⟨#[]⟩)]) 24 rfl Try.underlying22 info30 rfl (by decide) (by omega) u7 x5_1 (⟨x6_1, a0.extract (x6_1 : Int).toNat ((wrap64 (x6_1 + t108)) : Int).toNat⟩ : S30) [.int .i64 x6_1, .string (a0.extract (x6_1 : Int).toNat ((wrap64 (x6_1 + t108)) : Int).toNat)] (fun _ => True) (fun _ => False) rfl rfl ?aP (fun _ hk => hk.elim) ?aF ?aO ?aB ?aS ?aL ?_; (case aP => exact k30_mkM _ _ _ (⟨x6_1, a0.extract (x6_1 : Int).toNat ((wrap64 (x6_1 + t108)) : Int).toNat⟩ : S30)); (case aB => exact (qB)); (case aF => exact (fun _ _ => trivial)); (case aO => exact (qR HO_5.out)); (case aS => exact (below_size (qB))); (case aL => have := LMc15.out; omega); intro v110 w17 ho hb hg hat; rw [← Ny109.out] at ho; have n0_ := Aside0.mk (hb); have n1_ := Aside0.mk (ho); clear HB; clear HO_5; have HB := n0_; have HO111 := n1_; clear n0_ n1_; clear ho hb hg hat))
                      go_roundg k1
                      case measure => have := HK1.out; omega
                      case rel => exact ⟨(y109), (wrap64 (x6_1 + t108)), qS, H', ⟨by have := HK1.out; omega⟩, ⟨qR HO111.out⟩, ⟨qB⟩⟩
                    · rw [if_neg c15] at H
                      exact absurd H (by simp)
                  · rw [if_neg c14] at H
                    exact absurd H (by simp)
                · rw [if_neg c13] at H
                  exact absurd H (by simp)
            · rw [if_neg c8] at H
              exact absurd H (by simp)
        · rw [if_neg c4] at H
          exact absurd H (by simp)
      · rw [if_neg c3] at H
        have c3b0 : decide (x6_1 < (a0.size : Int)) = false := decide_eq_false c3
        clear c3
        simp only [Option.some.injEq, Prod.mk.injEq] at H
        obtain ⟨rfl, rfl, rfl⟩ := H
        go_wp2
        go_ret3
        exact ⟨_, qE, qR HO_5.out, qB⟩
set_option maxHeartbeats 8000000 in
set_option maxRecDepth 100000 in
theorem impl_TokensOf.calls (k : Nat) (a0 : ByteArray) (r1 : List (S30)) (r2 : Int) (r3 : Bool) (w : World) (h : impl_TokensOf.f k a0 = some (r1, r2, r3)) :
    Calls Try.prog 5 #[.string a0] w fun e w' => ∃ v0_ : Value, e = .returned (.tuple #[v0_, .int .i64 r2, .bool r3]) ∧ Kd.R k30 30 w' w.heap.size (fun _ => True) v0_ r1 ∧ Below w.heap.size w w' := by
  have HB := Aside0.mk (Below.refl w.heap.size w)
  unfold impl_TokensOf.f at h
  by_cases c2 : (a0.size : Int) > 800
  · rw [if_pos c2] at h
    have c2b0 : decide (800 < (a0.size : Int)) = true := decide_eq_true c2
    have c2b1 : decide (800 < a0.size) = true := decide_eq_true (by omega)
    clear c2
    simp only [Option.some.injEq, Prod.mk.injEq] at h
    obtain ⟨rfl, rfl, rfl⟩ := h
    go_enter Try.func5, Try.ntmps5
    go_wp2
    go_ret3
    exact ⟨_, qE, Kd.R_nil _ _ _ _ _, qB⟩
  · rw [if_neg c2] at h
    have c2b0 : decide (800 < (a0.size : Int)) = false := decide_eq_false c2
    have c2b1 : decide (800 < a0.size) = false := decide_eq_false (by omega)
    clear c2
    have HH := Aside0.mk h
    clear h
    go_enter Try.func5, Try.ntmps5
    go_wp2_with (go_at_call 10; (with_reducible refine (impl_TokensOf.inner k a0 r1 r2 r3 _ HH.out).mono ?_); rintro e w2 ⟨v0, rfl, ho, hb⟩; have n0_ := Aside0.mk (Kd.R_lower ho (below_size (qB))); have n1_ := Aside0.mk (below_step (qB) hb); clear HB ho hb; have HB := n1_; have HO := n0_; clear n0_ n1_)
    go_ret3
    exact ⟨_, rfl, HO.out, qB⟩


/-! ### laws_eqToken: function 12 -/
def laws_eqToken.f (a0_0 : Int) (a0_1 : ByteArray) (a1_0 : Int) (a1_1 : ByteArray) : Option (Bool) := if a0_0 = a1_0 then (if a0_1.toList = a1_1.toList then (some true) else (some false)) else (some false)
set_option maxHeartbeats 8000000 in
set_option maxRecDepth 100000 in
theorem laws_eqToken.calls (a0_0 : Int) (a0_1 : ByteArray) (a1_0 : Int) (a1_1 : ByteArray) (r : Bool) (w : World) (h : laws_eqToken.f a0_0 a0_1 a1_0 a1_1 = some r) :
    Calls Try.prog 12 #[.agg #[.int .i64 a0_0, .string a0_1], .agg #[.int .i64 a1_0, .string a1_1]] w fun e w' => e = .returned (.bool r) ∧ Below w.heap.size w w' := by
  have hu30 := Try.underlying30
  have HB := Aside0.mk (Below.refl w.heap.size w)
  have H : (if a0_0 = a1_0 then (if a0_1.toList = a1_1.toList then (some true) else (some false)) else (some false)) = some r := h
  clear h
  by_cases c3 : a0_0 = a1_0
  · rw [if_pos c3] at H
    have c3b0 : (a0_0 == a1_0) = true := beq_iff_eq.mpr c3
    have c3b1 : (a0_0 != a1_0) = false := bne_eq_false_iff_eq.mpr c3
    clear c3
    by_cases c4 : a0_1.toList = a1_1.toList
    · rw [if_pos c4] at H
      have c4b0 : (a0_1.toList == a1_1.toList) = true := beq_iff_eq.mpr c4
      have c4b1 : (a0_1.toList != a1_1.toList) = false := bne_eq_false_iff_eq.mpr c4
      clear c4
      obtain rfl := Option.some.inj H
      go_enter Try.func12, Try.ntmps12
      go_wp2_with (first | ((with_reducible refine gate_dst (N := 2) rfl ?_); refine box_event ?hg (N := 2) ?hd (cs := #[.int .i64 a0_0, .string a0_1]) (t := 30) ?hr ?_; (case hd => rfl); (case hg => rfl); (case hr => first | (go_simp; done) | (go_simp; rfl)); intro gb122 hg w5 hbox hb; have n0_ := Aside0.mk (below_step (qB) hb); have n1_ := Aside0.mk (hbox); have n2_ := Aside0.mk ((by rw [hg]; exact (below_size (qB)) : w.heap.size ≤ gb122)); have n3_ := Aside0.mk ((by rw [hg]; exact (below_size (qB)) : w.heap.size ≤ gb122)); clear HB; have HB := n0_; have BK122 := n1_; have GW122 := n2_; have GE122 := n3_; clear n0_ n1_ n2_ n3_; clear hb hbox hg) | ((with_reducible refine gate_dst (N := 3) rfl ?_); refine box_event ?hg (N := 3) ?hd (cs := #[.int .i64 a1_0, .string a1_1]) (t := 30) ?hr ?_; (case hd => rfl); (case hg => rfl); (case hr => first | (go_simp; done) | (go_simp; rfl)); intro gb123 hg w6 hbox hb; have n0_ := Aside0.mk (blk_below (g := gb122) (o := .cells #[.int .i64 a0_0, .string a0_1] 30 (0, 0)) (qK BK122.out) hb); have n1_ := Aside0.mk (below_step (qB) hb); have n2_ := Aside0.mk (hbox); have n3_ := Aside0.mk ((by rw [hg]; exact (below_size (qB)) : w.heap.size ≤ gb123)); have n4_ := Aside0.mk ((by rw [hg]; exact (below_size (qB)) : w.heap.size ≤ gb123)); have n5_ := Aside0.mk ((by rw [hg]; exact Nat.ne_of_lt (blk_lt (g := gb122) (o := .cells #[.int .i64 a0_0, .string a0_1] 30 (0, 0)) (qK BK122.out)) : gb122 ≠ gb123)); have n6_ := Aside0.mk ((by rw [hg]; exact Nat.ne_of_gt (blk_lt (g := gb122) (o := .cells #[.int .i64 a0_0, .string a0_1] 30 (0, 0)) (qK BK122.out)) : gb123 ≠ gb122)); clear BK122; clear HB; have BK122 := n0_; have HB := n1_; have BK123 := n2_; have GW123 := n3_; have GE123 := n4_; have NB122_123 := n5_; have NB123_122 := n6_; clear n0_ n1_ n2_ n3_ n4_ n5_ n6_; clear hb hbox hg; have hnb7 := NB122_123.out; have hnc7 := NB123_122.out; have hcz8_0 : w6.cell? ⟨gb122, 0, none⟩ = some (.int .i64 a0_0) := (blk_cell BK122.out 0).trans rfl; have hcz8_1 : w6.cell? ⟨gb122, 1, none⟩ = some (.string a0_1) := (blk_cell BK122.out 1).trans rfl; have hfz8_0 := blk_frozen BK122.out 0; have hfz8_1 := blk_frozen BK122.out 1; have hcz9_0 : w6.cell? ⟨gb123, 0, none⟩ = some (.int .i64 a1_0) := (blk_cell BK123.out 0).trans rfl; have hcz9_1 : w6.cell? ⟨gb123, 1, none⟩ = some (.string a1_1) := (blk_cell BK123.out 1).trans rfl; have hfz9_0 := blk_frozen BK123.out 0; have hfz9_1 := blk_frozen BK123.out 1))
      go_ret
      exact ⟨qE, qB⟩
    · rw [if_neg c4] at H
      have c4b0 : (a0_1.toList == a1_1.toList) = false := beq_eq_false_iff_ne.mpr c4
      have c4b1 : (a0_1.toList != a1_1.toList) = true := bne_iff_ne.mpr c4
      obtain rfl := Option.some.inj H
      go_enter Try.func12, Try.ntmps12
      go_wp2_with (first | ((with_reducible refine gate_dst (N := 2) rfl ?_); refine box_event ?hg (N := 2) ?hd (cs := #[.int .i64 a0_0, .string a0_1]) (t := 30) ?hr ?_; (case hd => rfl); (case hg => rfl); (case hr => first | (go_simp; done) | (go_simp; rfl)); intro gb122 hg w10 hbox hb; have n0_ := Aside0.mk (below_step (qB) hb); have n1_ := Aside0.mk (hbox); have n2_ := Aside0.mk ((by rw [hg]; exact (below_size (qB)) : w.heap.size ≤ gb122)); have n3_ := Aside0.mk ((by rw [hg]; exact (below_size (qB)) : w.heap.size ≤ gb122)); clear HB; have HB := n0_; have BK122 := n1_; have GW122 := n2_; have GE122 := n3_; clear n0_ n1_ n2_ n3_; clear hb hbox hg) | ((with_reducible refine gate_dst (N := 3) rfl ?_); refine box_event ?hg (N := 3) ?hd (cs := #[.int .i64 a1_0, .string a1_1]) (t := 30) ?hr ?_; (case hd => rfl); (case hg => rfl); (case hr => first | (go_simp; done) | (go_simp; rfl)); intro gb123 hg w11 hbox hb; have n0_ := Aside0.mk (blk_below (g := gb122) (o := .cells #[.int .i64 a0_0, .string a0_1] 30 (0, 0)) (qK BK122.out) hb); have n1_ := Aside0.mk (below_step (qB) hb); have n2_ := Aside0.mk (hbox); have n3_ := Aside0.mk ((by rw [hg]; exact (below_size (qB)) : w.heap.size ≤ gb123)); have n4_ := Aside0.mk ((by rw [hg]; exact (below_size (qB)) : w.heap.size ≤ gb123)); have n5_ := Aside0.mk ((by rw [hg]; exact Nat.ne_of_lt (blk_lt (g := gb122) (o := .cells #[.int .i64 a0_0, .string a0_1] 30 (0, 0)) (qK BK122.out)) : gb122 ≠ gb123)); have n6_ := Aside0.mk ((by rw [hg]; exact Nat.ne_of_gt (blk_lt (g := gb122) (o := .cells #[.int .i64 a0_0, .string a0_1] 30 (0, 0)) (qK BK122.out)) : gb123 ≠ gb122)); clear BK122; clear HB; have BK122 := n0_; have HB := n1_; have BK123 := n2_; have GW123 := n3_; have GE123 := n4_; have NB122_123 := n5_; have NB123_122 := n6_; clear n0_ n1_ n2_ n3_ n4_ n5_ n6_; clear hb hbox hg; have hnb12 := NB122_123.out; have hnc12 := NB123_122.out; have hcz13_0 : w11.cell? ⟨gb122, 0, none⟩ = some (.int .i64 a0_0) := (blk_cell BK122.out 0).trans rfl; have hcz13_1 : w11.cell? ⟨gb122, 1, none⟩ = some (.string a0_1) := (blk_cell BK122.out 1).trans rfl; have hfz13_0 := blk_frozen BK122.out 0; have hfz13_1 := blk_frozen BK122.out 1; have hcz14_0 : w11.cell? ⟨gb123, 0, none⟩ = some (.int .i64 a1_0) := (blk_cell BK123.out 0).trans rfl; have hcz14_1 : w11.cell? ⟨gb123, 1, none⟩ = some (.string a1_1) := (blk_cell BK123.out 1).trans rfl; have hfz14_0 := blk_frozen BK123.out 0; have hfz14_1 := blk_frozen BK123.out 1))
      go_ret
      exact ⟨qE, qB⟩
  · rw [if_neg c3] at H
    have c3b0 : (a0_0 == a1_0) = false := beq_eq_false_iff_ne.mpr c3
    have c3b1 : (a0_0 != a1_0) = true := bne_iff_ne.mpr c3
    obtain rfl := Option.some.inj H
    go_enter Try.func12, Try.ntmps12
    go_wp2_with (first | ((with_reducible refine gate_dst (N := 2) rfl ?_); refine box_event ?hg (N := 2) ?hd (cs := #[.int .i64 a0_0, .string a0_1]) (t := 30) ?hr ?_; (case hd => rfl); (case hg => rfl); (case hr => first | (go_simp; done) | (go_simp; rfl)); intro gb122 hg w15 hbox hb; have n0_ := Aside0.mk (below_step (qB) hb); have n1_ := Aside0.mk (hbox); have n2_ := Aside0.mk ((by rw [hg]; exact (below_size (qB)) : w.heap.size ≤ gb122)); have n3_ := Aside0.mk ((by rw [hg]; exact (below_size (qB)) : w.heap.size ≤ gb122)); clear HB; have HB := n0_; have BK122 := n1_; have GW122 := n2_; have GE122 := n3_; clear n0_ n1_ n2_ n3_; clear hb hbox hg) | ((with_reducible refine gate_dst (N := 3) rfl ?_); refine box_event ?hg (N := 3) ?hd (cs := #[.int .i64 a1_0, .string a1_1]) (t := 30) ?hr ?_; (case hd => rfl); (case hg => rfl); (case hr => first | (go_simp; done) | (go_simp; rfl)); intro gb123 hg w16 hbox hb; have n0_ := Aside0.mk (blk_below (g := gb122) (o := .cells #[.int .i64 a0_0, .string a0_1] 30 (0, 0)) (qK BK122.out) hb); have n1_ := Aside0.mk (below_step (qB) hb); have n2_ := Aside0.mk (hbox); have n3_ := Aside0.mk ((by rw [hg]; exact (below_size (qB)) : w.heap.size ≤ gb123)); have n4_ := Aside0.mk ((by rw [hg]; exact (below_size (qB)) : w.heap.size ≤ gb123)); have n5_ := Aside0.mk ((by rw [hg]; exact Nat.ne_of_lt (blk_lt (g := gb122) (o := .cells #[.int .i64 a0_0, .string a0_1] 30 (0, 0)) (qK BK122.out)) : gb122 ≠ gb123)); have n6_ := Aside0.mk ((by rw [hg]; exact Nat.ne_of_gt (blk_lt (g := gb122) (o := .cells #[.int .i64 a0_0, .string a0_1] 30 (0, 0)) (qK BK122.out)) : gb123 ≠ gb122)); clear BK122; clear HB; have BK122 := n0_; have HB := n1_; have BK123 := n2_; have GW123 := n3_; have GE123 := n4_; have NB122_123 := n5_; have NB123_122 := n6_; clear n0_ n1_ n2_ n3_ n4_ n5_ n6_; clear hb hbox hg; have hnb17 := NB122_123.out; have hnc17 := NB123_122.out; have hcz18_0 : w16.cell? ⟨gb122, 0, none⟩ = some (.int .i64 a0_0) := (blk_cell BK122.out 0).trans rfl; have hcz18_1 : w16.cell? ⟨gb122, 1, none⟩ = some (.string a0_1) := (blk_cell BK122.out 1).trans rfl; have hfz18_0 := blk_frozen BK122.out 0; have hfz18_1 := blk_frozen BK122.out 1; have hcz19_0 : w16.cell? ⟨gb123, 0, none⟩ = some (.int .i64 a1_0) := (blk_cell BK123.out 0).trans rfl; have hcz19_1 : w16.cell? ⟨gb123, 1, none⟩ = some (.string a1_1) := (blk_cell BK123.out 1).trans rfl; have hfz19_0 := blk_frozen BK123.out 0; have hfz19_1 := blk_frozen BK123.out 1))
    go_ret
    exact ⟨qE, qB⟩

end Go.Proofs.Ytkafeohhljdohaa.X
