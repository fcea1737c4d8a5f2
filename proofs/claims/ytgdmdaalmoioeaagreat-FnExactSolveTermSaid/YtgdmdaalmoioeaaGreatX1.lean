/- Go functions as Lean functions, each with the proof that its call comes to just its answer. Conditions: the arguments are of their kinds. -/
import Derived.Test.YtgdmdaalmoioeaaGreatX0
import Derived.StillTailTactics
namespace Go.Proofs.YtgdmdaalmoioeaaGreat.X
open Go.RowKit Go.Proofs.YtgdmdaalmoioeaaGreatW.PrintWords Go.Proofs.YtgdmdaalmoioeaaGreatW.PrintLast Go.Proofs.YtgdmdaalmoioeaaGreatW.PrintMore
attribute [local go_sem] max2_int min2_int max_two min_two max_three min_three max_four min_four
set_option linter.unusedVariables false
set_option linter.unusedSimpArgs false
set_option maxHeartbeats 16000000
set_option maxRecDepth 100000
def laws_szNodeS.f (l0 : List (S55)) (a1 : Int) : Option (Int) := if (wrap64 (a1 - (l0.length : Int))) < 0 then (some (-1)) else (some (wrap64 (a1 - (l0.length : Int))))
theorem laws_szNodeS.calls (A0 : Option Addr) (c0 : Nat) (l0 : List (S55)) (a1 : Int) (r : Int) (w : World) (hr0 : Kd.C k55 w A0 l0.length l0) (hc0 : l0.length ≤ c0) (h : laws_szNodeS.f l0 a1 = some r) :
  Calls Tryz.prog 4 #[.slice A0 l0.length c0, .int .i64 a1] w fun e w' => e = .returned (.int .i64 r) ∧ Drawn0 w w' := by
 have HR0 := qa hr0;have HC0 := qa hc0;clear hr0 hc0;have H := h;unfold laws_szNodeS.f at H;clear h;by_cases c3 : (wrap64 (a1 - (l0.length : Int))) < 0
 ·rw [if_pos c3] at H;have c3b0 : decide ((wrap64 (a1 - (l0.length : Int))) < 0) = true := decide_eq_true c3;clear c3;obtain rfl := Option.some.inj H;go_enter Tryz.func4, Tryz.ntmps4
  go_wp2
  go_ret
  exact ⟨qS, qT⟩
 ·rw [if_neg c3] at H;have c3b0 : decide ((wrap64 (a1 - (l0.length : Int))) < 0) = false := decide_eq_false c3;clear c3;obtain rfl := Option.some.inj H;go_enter Tryz.func4, Tryz.ntmps4
  go_wp2
  go_ret
  exact ⟨qS, qT⟩
def spec_l1In.f (a0 : Int) (a1 : Int) (a2 : Int) : Option (Bool) := if a0 ≥ a1 then (some (decide (a0 ≤ a2))) else (some false)
theorem spec_l1In.calls (a0 : Int) (a1 : Int) (a2 : Int) (r : Bool) (w : World) (h : spec_l1In.f a0 a1 a2 = some r) :
  Calls Tryz.prog 15 #[.int .i64 a0, .int .i64 a1, .int .i64 a2] w fun e w' => e = .returned (.bool r) ∧ Drawn0 w w' := by
 have H := h;unfold spec_l1In.f at H;clear h;by_cases c4 : a0 ≥ a1
 ·rw [if_pos c4] at H;have c4b0 : decide (a1 ≤ a0) = true := decide_eq_true c4;clear c4;obtain rfl := Option.some.inj H;go_enter Tryz.func15, Tryz.ntmps15
  go_wp2
  go_ret
  exact ⟨qS, qT⟩
 ·rw [if_neg c4] at H;have c4b0 : decide (a1 ≤ a0) = false := decide_eq_false c4;clear c4;obtain rfl := Option.some.inj H;go_enter Tryz.func15, Tryz.ntmps15
  go_wp2
  go_ret
  exact ⟨qS, qT⟩
def spec_l1Wide.f (a0 : Int) : Option (Bool) := (spec_l1In.f a0 1 64).bind fun t101 => (some t101)
theorem spec_l1Wide.calls (a0 : Int) (r : Bool) (w : World) (h : spec_l1Wide.f a0 = some r) :
  Calls Tryz.prog 30 #[.int .i64 a0] w fun e w' => e = .returned (.bool r) ∧ Drawn0 w w' := by
 have H := h;unfold spec_l1Wide.f at H;clear h;replace H := Option.bind_eq_some_iff.mp H;obtain ⟨t101, A20, H⟩ := H;try dsimp only at H
 have A2 := qa A20;clear A20;obtain rfl := Option.some.inj H;go_enter Tryz.func30, Tryz.ntmps30
 go_wp2_with (first | (go_at_call 15; (with_reducible refine (spec_l1In.calls a0 1 64 t101 _ A2.out).mono ?_); rintro e w' ⟨rfl, ⟨nd, rfl⟩⟩))
 go_ret
 exact ⟨qS, qT⟩
def spec_l2Need.j0 : Nat → Int → Bool → Option (Int × Int × Int)
 | 0, _, _ => none
 | k + 1, x0, x5 => if x5 = true then (some (0, 1, 1)) else (if x0 = 20 then (some (0, 2, 2)) else (if x0 = 13 then (some (1, 1, 1)) else (if x0 = 19 then (some (1, 2, 2)) else ((spec_l1In.f x0 3 12).bind fun t102 => (if t102 = true then (some (2, 1, 1)) else ((spec_l1In.f x0 14 16).bind fun t103 => (if t103 = true then (some (2, 1, 2)) else (if x0 = 17 then (some (2, 2, 2)) else (if x0 = 18 then (some (2, 2, 2)) else (some (0, 0, 0)))))))))))
def spec_l2Need.f (k : Nat) (a0 : Int) : Option (Int × Int × Int) := if a0 = 1 then (spec_l2Need.j0 k a0 true) else (spec_l2Need.j0 k a0 (a0 == 2))
theorem spec_l2Need.mono_l : ∀ k, (∀ y0 y1, LeO (spec_l2Need.j0 k y0 y1) (spec_l2Need.j0 (k + 1) y0 y1))
 | 0 => fun _ _ r h => by simp [spec_l2Need.j0] at h
 | k + 1 => by
  have ih0 := spec_l2Need.mono_l k
  ·intros;unfold spec_l2Need.j0;exact qM
theorem spec_l2Need.mono : ∀ a0 k, LeO (spec_l2Need.f k a0) (spec_l2Need.f (k + 1) a0) := by
 intro a0 k;have ih0 := spec_l2Need.mono_l k;unfold spec_l2Need.f;exact qM
theorem spec_l2Need.calls (k : Nat) (a0 : Int) (r1 : Int) (r2 : Int) (r3 : Int) (w : World) (h : spec_l2Need.f k a0 = some (r1, r2, r3)) :
  Calls Tryz.prog 31 #[.int .i64 a0] w fun e w' => e = .returned (.tuple #[.int .i64 r1, .int .i64 r2, .int .i64 r3]) ∧ Drawn0 w w' := by
 have H := h;unfold spec_l2Need.f at H;clear h;have HC2 := qa H;clear H;go_enter Tryz.func31, Tryz.ntmps31
 go_upto_region 1 with (fail)
 go_cut [5] (fun v5 wc => ∃ (kq : Nat) (x5_1 : Bool), v5 = .bool x5_1 ∧ Aside0 (spec_l2Need.j0 kq a0 x5_1 = some (r1, r2, r3)) ∧ Aside0 (kq ≤ k) ∧ Drawn0 w wc)
 case first =>
  have H := HC2.out;clear HC2;by_cases c3 : a0 = 1
  ·rw [if_pos c3] at H;obtain ⟨c3b0, c3b1⟩ := qb1 c3;clear c3;(first | rw [c3b0] | (simp only [i64_w, i32_w]; rw [c3b0]) | skip)
   have H' := qa H;clear H;go_wp2
   go_meet
   case rel => exact ⟨_, (true), qS, H', ⟨by first | omega | exact Nat.le_refl _⟩, qT⟩
  ·rw [if_neg c3] at H;obtain ⟨c3b0, c3b1⟩ := qb0 c3;(first | rw [c3b0] | (simp only [i64_w, i32_w]; rw [c3b0]) | skip)
   have H' := qa H;clear H;go_wp2
   go_meet
   case rel => exact ⟨_, ((a0 == 2)), qS, H', ⟨by first | omega | exact Nat.le_refl _⟩, qT⟩
 case rest =>
  clear HC2;obtain ⟨kq, x5_1, rfl, HA, HJ1, ⟨mc1, rfl⟩⟩ := hcut;cases kq with
  | zero => exact absurd HA.out (by simp [spec_l2Need.j0])
  | succ kj1 =>
   have H := HA.out;clear HA;simp only [spec_l2Need.j0] at H;by_cases c4 : x5_1 = true
   ·subst c4;rw [if_pos rfl] at H;simp only [Option.some.injEq, Prod.mk.injEq] at H;obtain ⟨rfl, rfl, rfl⟩ := H;go_wp2
    go_ret3
    exact ⟨qS, qT⟩
   ·replace c4 := Bool.eq_false_iff.mpr c4;subst c4;rw [if_neg (show ¬ (false = true) by decide)] at H;by_cases c5 : a0 = 20
    ·rw [if_pos c5] at H;obtain ⟨c5b0, c5b1⟩ := qb1 c5;clear c5;simp only [Option.some.injEq, Prod.mk.injEq] at H;obtain ⟨rfl, rfl, rfl⟩ := H;go_wp2
     go_ret3
     exact ⟨qS, qT⟩
    ·rw [if_neg c5] at H;obtain ⟨c5b0, c5b1⟩ := qb0 c5;by_cases c6 : a0 = 13
     ·rw [if_pos c6] at H;obtain ⟨c6b0, c6b1⟩ := qb1 c6;clear c6;simp only [Option.some.injEq, Prod.mk.injEq] at H;obtain ⟨rfl, rfl, rfl⟩ := H;go_wp2
      go_ret3
      exact ⟨qS, qT⟩
     ·rw [if_neg c6] at H;obtain ⟨c6b0, c6b1⟩ := qb0 c6;by_cases c7 : a0 = 19
      ·rw [if_pos c7] at H;obtain ⟨c7b0, c7b1⟩ := qb1 c7;clear c7;simp only [Option.some.injEq, Prod.mk.injEq] at H;obtain ⟨rfl, rfl, rfl⟩ := H;go_wp2
       go_ret3
       exact ⟨qS, qT⟩
      ·rw [if_neg c7] at H;obtain ⟨c7b0, c7b1⟩ := qb0 c7;replace H := Option.bind_eq_some_iff.mp H;obtain ⟨t102, A80, H⟩ := H;try dsimp only at H
       have A8 := qa A80;clear A80;by_cases c9 : t102 = true
       ·subst c9;rw [if_pos rfl] at H;simp only [Option.some.injEq, Prod.mk.injEq] at H;obtain ⟨rfl, rfl, rfl⟩ := H;go_wp2_with (first | (go_at_call 15; (with_reducible refine (spec_l1In.calls a0 3 12 true _ A8.out).mono ?_); rintro e w' ⟨rfl, ⟨nd, rfl⟩⟩))
        go_ret3
        exact ⟨qS, qT⟩
       ·replace c9 := Bool.eq_false_iff.mpr c9;subst c9;rw [if_neg (show ¬ (false = true) by decide)] at H;replace H := Option.bind_eq_some_iff.mp H;obtain ⟨t103, A100, H⟩ := H;try dsimp only at H
        have A10 := qa A100;clear A100;by_cases c11 : t103 = true
        ·subst c11;rw [if_pos rfl] at H;simp only [Option.some.injEq, Prod.mk.injEq] at H;obtain ⟨rfl, rfl, rfl⟩ := H;go_wp2_with (first | (go_at_call 15; (with_reducible refine (spec_l1In.calls a0 3 12 false _ A8.out).mono ?_); rintro e w' ⟨rfl, ⟨nd, rfl⟩⟩) | (go_at_call 15; (with_reducible refine (spec_l1In.calls a0 14 16 true _ A10.out).mono ?_); rintro e w' ⟨rfl, ⟨nd, rfl⟩⟩))
         go_ret3
         exact ⟨qS, qT⟩
        ·replace c11 := Bool.eq_false_iff.mpr c11;subst c11;rw [if_neg (show ¬ (false = true) by decide)] at H;by_cases c12 : a0 = 17
         ·rw [if_pos c12] at H;obtain ⟨c12b0, c12b1⟩ := qb1 c12;clear c12;simp only [Option.some.injEq, Prod.mk.injEq] at H;obtain ⟨rfl, rfl, rfl⟩ := H;go_wp2_with (first | (go_at_call 15; (with_reducible refine (spec_l1In.calls a0 3 12 false _ A8.out).mono ?_); rintro e w' ⟨rfl, ⟨nd, rfl⟩⟩) | (go_at_call 15; (with_reducible refine (spec_l1In.calls a0 14 16 false _ A10.out).mono ?_); rintro e w' ⟨rfl, ⟨nd, rfl⟩⟩))
          go_ret3
          exact ⟨qS, qT⟩
         ·rw [if_neg c12] at H;obtain ⟨c12b0, c12b1⟩ := qb0 c12;by_cases c13 : a0 = 18
          ·rw [if_pos c13] at H;obtain ⟨c13b0, c13b1⟩ := qb1 c13;clear c13;simp only [Option.some.injEq, Prod.mk.injEq] at H;obtain ⟨rfl, rfl, rfl⟩ := H;go_wp2_with (first | (go_at_call 15; (with_reducible refine (spec_l1In.calls a0 3 12 false _ A8.out).mono ?_); rintro e w' ⟨rfl, ⟨nd, rfl⟩⟩) | (go_at_call 15; (with_reducible refine (spec_l1In.calls a0 14 16 false _ A10.out).mono ?_); rintro e w' ⟨rfl, ⟨nd, rfl⟩⟩))
           go_ret3
           exact ⟨qS, qT⟩
          ·rw [if_neg c13] at H;obtain ⟨c13b0, c13b1⟩ := qb0 c13;simp only [Option.some.injEq, Prod.mk.injEq] at H;obtain ⟨rfl, rfl, rfl⟩ := H;go_wp2_with (first | (go_at_call 15; (with_reducible refine (spec_l1In.calls a0 3 12 false _ A8.out).mono ?_); rintro e w' ⟨rfl, ⟨nd, rfl⟩⟩) | (go_at_call 15; (with_reducible refine (spec_l1In.calls a0 14 16 false _ A10.out).mono ?_); rintro e w' ⟨rfl, ⟨nd, rfl⟩⟩))
           go_ret3
           exact ⟨qS, qT⟩
def spec_l1Cut.l0 : Nat → Int → Int → Int → Int → Option (Int)
 | 0, _, _, _, _ => none
 | k + 1, x0, x1, x5, x6 => if x6 < x0 then (if 0 ≤ (IntKind.u64.wrap (x6)) then (spec_l1Cut.l0 k x0 x1 (Go.bits .or .u64 x5 (Go.bits .and .u64 x1 (shl .u64 1 (IntKind.u64.wrap (x6))))) (wrap64 (x6 + 1))) else (none)) else (some x5)
def spec_l1Cut.f (k : Nat) (a0 : Int) (a1 : Int) : Option (Int) := spec_l1Cut.l0 k a0 a1 0 0
theorem spec_l1Cut.mono_l : ∀ k, (∀ y0 y1 y2 y3, LeO (spec_l1Cut.l0 k y0 y1 y2 y3) (spec_l1Cut.l0 (k + 1) y0 y1 y2 y3))
 | 0 => fun _ _ _ _ r h => by simp [spec_l1Cut.l0] at h
 | k + 1 => by
  have ih0 := spec_l1Cut.mono_l k
  ·intros;unfold spec_l1Cut.l0;exact qM
theorem spec_l1Cut.mono : ∀ a0 a1 k, LeO (spec_l1Cut.f k a0 a1) (spec_l1Cut.f (k + 1) a0 a1) := by
 intro a0 a1 k;have ih0 := spec_l1Cut.mono_l k;unfold spec_l1Cut.f;exact qM
theorem spec_l1Cut.calls (k : Nat) (a0 : Int) (a1 : Int) (r : Int) (w : World) (h : spec_l1Cut.f k a0 a1 = some r) :
  Calls Tryz.prog 86 #[.int .i64 a0, .int .u64 a1] w fun e w' => e = .returned (.int .u64 r) ∧ Drawn0 w w' := by
 have H := h;unfold spec_l1Cut.f at H;clear h;have H' := qa H;clear H;go_enter Tryz.func86, Tryz.ntmps86
 go_wp2
 go_loopg [5, 6] k (fun kq v5 v6 w' => ∃ (x5_1 : Int) (x6_1 : Int), v5 = .int .u64 x5_1 ∧ v6 = .int .i64 x6_1 ∧ Aside0 (spec_l1Cut.l0 kq a0 a1 x5_1 x6_1 = some r) ∧ Aside0 (kq ≤ k) ∧ Drawn0 w w')
 case atStart => exact ⟨(0), (0), qS, qS, H', ⟨Nat.le_refl _⟩, qT⟩
 case round =>
  clear H';obtain ⟨x5_1, x6_1, rfl, rfl, HA, HK1, ⟨m1, rfl⟩⟩ := hrel;cases gk with
  | zero => exact absurd HA.out (by simp [spec_l1Cut.l0])
  | succ k1 =>
   have H := HA.out;clear HA;simp only [spec_l1Cut.l0] at H;by_cases c3 : x6_1 < a0
   ·rw [if_pos c3] at H;have c3b0 : decide (x6_1 < a0) = true := decide_eq_true c3;clear c3;obtain ⟨ji4, hji4⟩ : ∃ j_ : Int, (IntKind.u64.wrap (x6_1)) = j_ := ⟨_, rfl⟩;replace H : (if 0 ≤ (ji4) then (spec_l1Cut.l0 k1 a0 a1 (Go.bits .or .u64 x5_1 (Go.bits .and .u64 a1 (shl .u64 1 (ji4)))) (wrap64 (x6_1 + 1))) else (none)) = some r := (by first | (rw [hji4] at H; exact H) | (simp only [hji4] at H ⊢; exact H));obtain ⟨c5, H⟩ := qI H;have c5b0 := eq_true c5;have c5b1 : decide (0 ≤ (ji4)) = true := decide_eq_true c5;clear c5;obtain ⟨ji6, hji6⟩ : ∃ j_ : Int, (shl .u64 1 (ji4)) = j_ := ⟨_, rfl⟩;replace H : (spec_l1Cut.l0 k1 a0 a1 (Go.bits .or .u64 x5_1 (Go.bits .and .u64 a1 (ji6))) (wrap64 (x6_1 + 1))) = some r := (by first | (rw [hji6] at H; exact H) | (simp only [hji6] at H ⊢; exact H));have hji6_ : (IntKind.u64.wrap (1 * 2 ^ min (ji4).toNat 64)) = ji6 := hji6;have hji6z : (ji4) ≤ 64 → (IntKind.u64.wrap (1 * 2 ^ (ji4).toNat)) = ji6 := shl_small hji6;have hji6u : (IntKind.u64.wrap (2 ^ min (ji4).toNat 64)) = ji6 := (by have h_ := hji6_; rw [Int.one_mul] at h_; exact h_);have hji6v : (ji4) ≤ 64 → (IntKind.u64.wrap (2 ^ (ji4).toNat)) = ji6 := fun hle_ => by have h_ := hji6z hle_; rw [Int.one_mul] at h_; exact h_
    have H' := qa H;clear H;go_wp2
    go_roundg k1;case measure => have := HK1.out; omega
    case rel => exact ⟨(Go.bits .or .u64 x5_1 (Go.bits .and .u64 a1 (ji6))), (wrap64 (x6_1 + 1)), (by first | rfl | (simp; done) | (simp only [← hji6] <;> (first | rfl | simp)) | (simp [*]; done)), qS, H', ⟨by have := HK1.out; omega⟩, qT⟩
   ·rw [if_neg c3] at H;have c3b0 : decide (x6_1 < a0) = false := decide_eq_false c3;clear c3;obtain rfl := Option.some.inj H;go_wp2
    go_ret
    exact ⟨qS, qT⟩
def spec_GoodWord.f (k : Nat) (a0 : Int) (a1 : Int) : Option (Bool) := (spec_l1Wide.f a0).bind fun t104 => (if t104 = true then ((spec_l1Cut.f k a0 a1).bind fun t105 => (some (t105 == a1))) else (some false))
theorem spec_GoodWord.mono : ∀ a0 a1 k, LeO (spec_GoodWord.f k a0 a1) (spec_GoodWord.f (k + 1) a0 a1) := by
 intro a0 a1 k;unfold spec_GoodWord.f;have m0 := @spec_l1Cut.mono; exact qM
theorem spec_GoodWord.calls (k : Nat) (a0 : Int) (a1 : Int) (r : Bool) (w : World) (h : spec_GoodWord.f k a0 a1 = some r) :
  Calls Tryz.prog 57 #[.int .i64 a0, .int .u64 a1] w fun e w' => e = .returned (.bool r) ∧ Drawn0 w w' := by
 have H := h;unfold spec_GoodWord.f at H;clear h;replace H := Option.bind_eq_some_iff.mp H;obtain ⟨t104, A30, H⟩ := H;try dsimp only at H
 have A3 := qa A30;clear A30;by_cases c4 : t104 = true
 ·subst c4;rw [if_pos rfl] at H;replace H := Option.bind_eq_some_iff.mp H;obtain ⟨t105, A50, H⟩ := H;try dsimp only at H
  have A5 := qa A50;clear A50;obtain rfl := Option.some.inj H;go_enter Tryz.func57, Tryz.ntmps57
  go_wp2_with (first | (go_at_call 30; (with_reducible refine (spec_l1Wide.calls a0 true _ A3.out).mono ?_); rintro e w' ⟨rfl, ⟨nd, rfl⟩⟩) | (go_at_call 86; (with_reducible refine (spec_l1Cut.calls k a0 a1 t105 _ A5.out).mono ?_); rintro e w' ⟨rfl, ⟨nd, rfl⟩⟩))
  go_ret
  exact ⟨qS, qT⟩
 ·replace c4 := Bool.eq_false_iff.mpr c4;subst c4;rw [if_neg (show ¬ (false = true) by decide)] at H;obtain rfl := Option.some.inj H;go_enter Tryz.func57, Tryz.ntmps57
  go_wp2_with (first | (go_at_call 30; (with_reducible refine (spec_l1Wide.calls a0 false _ A3.out).mono ?_); rintro e w' ⟨rfl, ⟨nd, rfl⟩⟩))
  go_ret
  exact ⟨qS, qT⟩
def spec_l2N.f (k : Nat) (a0 : Int) (a1 : Int) (a2_0 : Int) (a2_1 : Int) : Option (Bool) := if a2_0 = 1 then ((spec_GoodWord.f k a0 a2_1).bind fun t107 => (some t107)) else (if a2_0 = 2 then (some (decide (a2_1 < (IntKind.u64.wrap (a1))))) else (if a2_0 = 20 then (some (decide (a2_1 < 2))) else (some (a2_1 == 0))))
theorem spec_l2N.mono : ∀ a0 a1 a2 a3 k, LeO (spec_l2N.f k a0 a1 a2 a3) (spec_l2N.f (k + 1) a0 a1 a2 a3) := by
 intro a0 a1 a2 a3 k;unfold spec_l2N.f;have m0 := @spec_GoodWord.mono; exact qM
theorem spec_l2N.calls (k : Nat) (a0 : Int) (a1 : Int) (a2_0 : Int) (a2_1 : Int) (r : Bool) (w : World) (h : spec_l2N.f k a0 a1 a2_0 a2_1 = some r) :
  Calls Tryz.prog 32 #[.int .i64 a0, .int .i64 a1, .agg #[.int .i64 a2_0, .int .u64 a2_1]] w fun e w' => e = .returned (.bool r) ∧ Below w.heap.size w w' := by
 have hu53 := Tryz.underlying53;have HB := qa (Below.refl w.heap.size w);have H := h;unfold spec_l2N.f at H;clear h;by_cases c4 : a2_0 = 1
 ·rw [if_pos c4] at H;obtain ⟨c4b0, c4b1⟩ := qb1 c4;clear c4;replace H := Option.bind_eq_some_iff.mp H;obtain ⟨t107, A50, H⟩ := H;try dsimp only at H
  have A5 := qa A50;clear A50;obtain rfl := Option.some.inj H;go_enter Tryz.func32, Tryz.ntmps32
  go_wp2_with (first | ((with_reducible refine gate_dst (N := 5) rfl ?_); refine box_event rfl (N := 5) rfl (cs := #[.int .i64 a2_0, .int .u64 a2_1]) (t := 53) qW ?_; intro gb106 hg w6 hbox hb; have BK106 := qa (hbox); have GW106 := qg w hg; replace HB := qa (below_step (qB) hb); clear hb hbox hg; have hcz7 := blk_cell BK106.out; have hfz7 := blk_frozen BK106.out) | (go_at_call 57; (with_reducible refine (spec_GoodWord.calls k a0 a2_1 t107 _ A5.out).mono ?_); rintro e w' ⟨rfl, ⟨nd, rfl⟩⟩))
  go_ret
  exact ⟨qE, qB⟩
 ·rw [if_neg c4] at H;obtain ⟨c4b0, c4b1⟩ := qb0 c4;by_cases c8 : a2_0 = 2
  ·rw [if_pos c8] at H;obtain ⟨c8b0, c8b1⟩ := qb1 c8;clear c8;obtain rfl := Option.some.inj H;go_enter Tryz.func32, Tryz.ntmps32
   go_wp2_with (first | ((with_reducible refine gate_dst (N := 5) rfl ?_); refine box_event rfl (N := 5) rfl (cs := #[.int .i64 a2_0, .int .u64 a2_1]) (t := 53) qW ?_; intro gb106 hg w9 hbox hb; have BK106 := qa (hbox); have GW106 := qg w hg; replace HB := qa (below_step (qB) hb); clear hb hbox hg; have hcz10 := blk_cell BK106.out; have hfz10 := blk_frozen BK106.out))
   go_ret
   exact ⟨qE, qB⟩
  ·rw [if_neg c8] at H;obtain ⟨c8b0, c8b1⟩ := qb0 c8;by_cases c11 : a2_0 = 20
   ·rw [if_pos c11] at H;obtain ⟨c11b0, c11b1⟩ := qb1 c11;clear c11;obtain rfl := Option.some.inj H;go_enter Tryz.func32, Tryz.ntmps32
    go_wp2_with (first | ((with_reducible refine gate_dst (N := 5) rfl ?_); refine box_event rfl (N := 5) rfl (cs := #[.int .i64 a2_0, .int .u64 a2_1]) (t := 53) qW ?_; intro gb106 hg w12 hbox hb; have BK106 := qa (hbox); have GW106 := qg w hg; replace HB := qa (below_step (qB) hb); clear hb hbox hg; have hcz13 := blk_cell BK106.out; have hfz13 := blk_frozen BK106.out))
    go_ret
    exact ⟨qE, qB⟩
   ·rw [if_neg c11] at H;obtain ⟨c11b0, c11b1⟩ := qb0 c11;obtain rfl := Option.some.inj H;go_enter Tryz.func32, Tryz.ntmps32
    go_wp2_with (first | ((with_reducible refine gate_dst (N := 5) rfl ?_); refine box_event rfl (N := 5) rfl (cs := #[.int .i64 a2_0, .int .u64 a2_1]) (t := 53) qW ?_; intro gb106 hg w14 hbox hb; have BK106 := qa (hbox); have GW106 := qg w hg; replace HB := qa (below_step (qB) hb); clear hb hbox hg; have hcz15 := blk_cell BK106.out; have hfz15 := blk_frozen BK106.out))
    go_ret
    exact ⟨qE, qB⟩
mutual
def spec_l2Kind.j0 : Nat → Int → Int → List (S53) → Bool → Option (Int)
 | 0, _, _, _, _ => none
 | k + 1, x0, x1, x2, x26 => if x26 = true then (some 0) else (spec_l2Kind.l0 k x0 x1 ([] : List Int) x2 (x2.length : Int) 0)
def spec_l2Kind.l0 : Nat → Int → Int → List Int → List (S53) → Int → Int → Option (Int)
 | 0, _, _, _, _, _, _ => none
 | k + 1, x0, x1, x7, x27, x28, x29 => if x29 < x28 then (if 0 ≤ x29 then (if x29 < (x27.length : Int) then ((spec_l2Need.f k ((rd_T53 x27 x29).f0)).bind fun bt114 => (if bt114.2.2 = 0 then (spec_l2Kind.j2 k x0 x1 x7 bt114.1 bt114.2.1 bt114.2.2 x27 x28 x29 true) else ((spec_l2N.f k x0 x1 ((rd_T53 x27 x29).f0) ((rd_T53 x27 x29).f1)).bind fun t117 => (if t117 = true then (spec_l2Kind.j2 k x0 x1 x7 bt114.1 bt114.2.1 bt114.2.2 x27 x28 x29 (decide ((x7.length : Int) < bt114.1))) else (spec_l2Kind.j2 k x0 x1 x7 bt114.1 bt114.2.1 bt114.2.2 x27 x28 x29 true))))) else (none)) else (none)) else (if (x7.length : Int) = 1 then (if 0 < (x7.length : Int) then (some (rd x7 0)) else (none)) else (some 0))
def spec_l2Kind.j2 : Nat → Int → Int → List Int → Int → Int → Int → List (S53) → Int → Int → Bool → Option (Int)
 | 0, _, _, _, _, _, _, _, _, _, _ => none
 | k + 1, x0, x1, x7, x10, x11, x12, x27, x28, x29, x54 => if x54 = true then (some 0) else (spec_l2Kind.l1 k x0 x1 x7 x10 x11 x12 x27 x28 x29)
def spec_l2Kind.l1 : Nat → Int → Int → List Int → Int → Int → Int → List (S53) → Int → Int → Option (Int)
 | 0, _, _, _, _, _, _, _, _, _ => none
 | k + 1, x0, x1, x7, x10, x11, x12, x27, x28, x29 => if x10 > 0 then (if 0 ≤ (wrap64 ((x7.length : Int) - 1)) then (if (wrap64 ((x7.length : Int) - 1)) < (x7.length : Int) then (if (rd x7 (wrap64 ((x7.length : Int) - 1))) = x11 then (if (wrap64 ((x7.length : Int) - 1)) ≤ (x7.length : Int) then (spec_l2Kind.l1 k x0 x1 (x7.take ((wrap64 ((x7.length : Int) - 1)) : Int).toNat) (wrap64 (x10 - 1)) x11 x12 x27 x28 x29) else (none)) else (some 0)) else (none)) else (none)) else (if x7.length < 17592186044416 then (spec_l2Kind.l0 k x0 x1 (x7 ++ [x12]) x27 x28 (wrap64 (x29 + 1))) else (none))
end
def spec_l2Kind.f (k : Nat) (a0 : Int) (a1 : Int) (l2 : List (S53)) : Option (Int) := (spec_l1Wide.f a0).bind fun t108 => (if t108 = true then ((spec_l1In.f a1 1 4).bind fun t109 => (if t109 = true then ((spec_l1In.f (l2.length : Int) 1 48).bind fun t110 => (spec_l2Kind.j0 k a0 a1 l2 (!t110))) else (spec_l2Kind.j0 k a0 a1 l2 true))) else (spec_l2Kind.j0 k a0 a1 l2 true))
theorem spec_l2Kind.mono_l : ∀ k, (∀ y0 y1 y2 y3, LeO (spec_l2Kind.j0 k y0 y1 y2 y3) (spec_l2Kind.j0 (k + 1) y0 y1 y2 y3)) ∧ (∀ y0 y1 y2 y3 y4 y5, LeO (spec_l2Kind.l0 k y0 y1 y2 y3 y4 y5) (spec_l2Kind.l0 (k + 1) y0 y1 y2 y3 y4 y5)) ∧ (∀ y0 y1 y2 y3 y4 y5 y6 y7 y8 y9, LeO (spec_l2Kind.j2 k y0 y1 y2 y3 y4 y5 y6 y7 y8 y9) (spec_l2Kind.j2 (k + 1) y0 y1 y2 y3 y4 y5 y6 y7 y8 y9)) ∧ (∀ y0 y1 y2 y3 y4 y5 y6 y7 y8, LeO (spec_l2Kind.l1 k y0 y1 y2 y3 y4 y5 y6 y7 y8) (spec_l2Kind.l1 (k + 1) y0 y1 y2 y3 y4 y5 y6 y7 y8))
 | 0 => ⟨fun _ _ _ _ r h => by simp [spec_l2Kind.j0] at h, fun _ _ _ _ _ _ r h => by simp [spec_l2Kind.l0] at h, fun _ _ _ _ _ _ _ _ _ _ r h => by simp [spec_l2Kind.j2] at h, fun _ _ _ _ _ _ _ _ _ r h => by simp [spec_l2Kind.l1] at h⟩
 | k + 1 => by
  obtain ⟨ih0, ih1, ih2, ih3⟩ := spec_l2Kind.mono_l k;refine ⟨?_, ?_, ?_, ?_⟩
  ·intros;unfold spec_l2Kind.j0;have m0 := @spec_l2N.mono; have m1 := @spec_l2Need.mono; exact qM
  ·intros;unfold spec_l2Kind.l0;have m0 := @spec_l2N.mono; have m1 := @spec_l2Need.mono; exact qM
  ·intros;unfold spec_l2Kind.j2;have m0 := @spec_l2N.mono; have m1 := @spec_l2Need.mono; exact qM
  ·intros;unfold spec_l2Kind.l1;have m0 := @spec_l2N.mono; have m1 := @spec_l2Need.mono; exact qM
theorem spec_l2Kind.mono : ∀ a0 a1 a2 k, LeO (spec_l2Kind.f k a0 a1 a2) (spec_l2Kind.f (k + 1) a0 a1 a2) := by
 intro a0 a1 a2 k;obtain ⟨ih0, ih1, ih2, ih3⟩ := spec_l2Kind.mono_l k;unfold spec_l2Kind.f;have m0 := @spec_l2N.mono; have m1 := @spec_l2Need.mono; exact qM
theorem spec_l2Kind.calls (k : Nat) (a0 : Int) (a1 : Int) (A2 : Option Addr) (c2 : Nat) (l2 : List (S53)) (r : Int) (w : World) (hr2 : Kd.C k53 w A2 l2.length l2) (hc2 : l2.length ≤ c2) (h : spec_l2Kind.f k a0 a1 l2 = some r) :
  Calls Tryz.prog 14 #[.int .i64 a0, .int .i64 a1, .slice A2 l2.length c2] w fun e w' => e = .returned (.int .i64 r) ∧ Below w.heap.size w w' := by
 have hu53 := Tryz.underlying53;have HR2 := qa hr2;have HC2 := qa hc2;clear hr2 hc2;have HB := qa (Below.refl w.heap.size w);have H := h;unfold spec_l2Kind.f at H;clear h;have HC4 := qa H;clear H;go_enter Tryz.func14, Tryz.ntmps14
 go_upto_region 1 with (fail)
 go_cut [26] (fun v26 wc => ∃ (kq : Nat) (x26_3 : Bool), v26 = .bool x26_3 ∧ Aside0 (spec_l2Kind.j0 kq a0 a1 l2 x26_3 = some r) ∧ Aside0 (kq ≤ k) ∧ Aside0 (Below w.heap.size w wc))
 case first =>
  have H := HC4.out;clear HC4;replace H := Option.bind_eq_some_iff.mp H;obtain ⟨t108, A50, H⟩ := H;try dsimp only at H
  have A5 := qa A50;clear A50;by_cases c6 : t108 = true
  ·subst c6;rw [if_pos rfl] at H;replace H := Option.bind_eq_some_iff.mp H;obtain ⟨t109, A70, H⟩ := H;try dsimp only at H
   have A7 := qa A70;clear A70;by_cases c8 : t109 = true
   ·subst c8;rw [if_pos rfl] at H;replace H := Option.bind_eq_some_iff.mp H;obtain ⟨t110, A90, H⟩ := H;try dsimp only at H
    have A9 := qa A90;clear A90;have H' := qa H;clear H;go_wp2_with (first | (go_at_call 30; (with_reducible refine (spec_l1Wide.calls a0 true _ A5.out).mono ?_); rintro e w' ⟨rfl, ⟨nd, rfl⟩⟩) | (go_at_call 15; (with_reducible refine (spec_l1In.calls a1 1 4 true _ A7.out).mono ?_); rintro e w' ⟨rfl, ⟨nd, rfl⟩⟩) | (go_at_call 15; (with_reducible refine (spec_l1In.calls (l2.length : Int) 1 48 t110 _ A9.out).mono ?_); rintro e w' ⟨rfl, ⟨nd, rfl⟩⟩))
    go_meet
    case rel => exact ⟨_, (!t110), qS, H', ⟨by first | omega | exact Nat.le_refl _⟩, ⟨qB⟩⟩
   ·replace c8 := Bool.eq_false_iff.mpr c8;subst c8;rw [if_neg (show ¬ (false = true) by decide)] at H;have H' := qa H;clear H;go_wp2_with (first | (go_at_call 30; (with_reducible refine (spec_l1Wide.calls a0 true _ A5.out).mono ?_); rintro e w' ⟨rfl, ⟨nd, rfl⟩⟩) | (go_at_call 15; (with_reducible refine (spec_l1In.calls a1 1 4 false _ A7.out).mono ?_); rintro e w' ⟨rfl, ⟨nd, rfl⟩⟩))
    go_meet
    case rel => exact ⟨_, (true), qS, H', ⟨by first | omega | exact Nat.le_refl _⟩, ⟨qB⟩⟩
  ·replace c6 := Bool.eq_false_iff.mpr c6;subst c6;rw [if_neg (show ¬ (false = true) by decide)] at H;have H' := qa H;clear H;go_wp2_with (first | (go_at_call 30; (with_reducible refine (spec_l1Wide.calls a0 false _ A5.out).mono ?_); rintro e w' ⟨rfl, ⟨nd, rfl⟩⟩))
   go_meet
   case rel => exact ⟨_, (true), qS, H', ⟨by first | omega | exact Nat.le_refl _⟩, ⟨qB⟩⟩
 case rest =>
  clear HC4;obtain ⟨kq, x26_3, rfl, HA, HJ3, HB⟩ := hcut;cases kq with
  | zero => exact absurd HA.out (by simp [spec_l2Kind.j0])
  | succ kj3 =>
   have H := HA.out;clear HA;simp only [spec_l2Kind.j0] at H;by_cases c10 : x26_3 = true
   ·subst c10;rw [if_pos rfl] at H;obtain rfl := Option.some.inj H;go_wp2
    go_ret
    exact ⟨qE, qB⟩
   ·replace c10 := Bool.eq_false_iff.mpr c10;subst c10;rw [if_neg (show ¬ (false = true) by decide)] at H;have H' := qa H;clear H;go_wp2
    go_loopg [7, 29] kj3 (fun kq v7 v29 w' => ∃ (x7_2 : List Int) (x29_2 : Int), v29 = .int .i64 x29_2 ∧ Aside0 (spec_l2Kind.l0 kq a0 a1 x7_2 l2 (l2.length : Int) x29_2 = some r) ∧ Aside0 (kq ≤ kj3) ∧ Aside0 (Kd.R (Kd.int .i64) 3 w' w.heap.size (fun _ => True) v7 x7_2) ∧ Aside0 (Below w.heap.size w w'))
    case atStart => exact ⟨(([] : List Int)), (0), qS, H', ⟨Nat.le_refl _⟩, ⟨by first | exact Kd.R_nil _ _ _ _ _ | exact Kd.N_nil _ _ _ _ _ | exact Kd.V_nil _ _ _ _ _ | exact Kd.Q_nil _ _ _ _ _ | exact Kd.S_nil _ _ _ _ _⟩, ⟨qB⟩⟩
    case round =>
     clear H';obtain ⟨x7_2, x29_2, rfl, HA, HK2, HO_7, HB⟩ := hrel;cases gk with
     | zero => exact absurd HA.out (by simp [spec_l2Kind.l0])
     | succ k2 =>
      have H := HA.out;clear HA;simp only [spec_l2Kind.l0] at H;by_cases c11 : x29_2 < (l2.length : Int)
      ·rw [if_pos c11] at H;have c11b0 := decide_eq_true c11;clear c11;obtain ⟨c12, H⟩ := qI H;have c12b0 : decide (0 ≤ x29_2) = true := decide_eq_true c12;clear c12;obtain ⟨c13, H⟩ := qI H;have c13b0 : decide (x29_2 < (l2.length : Int)) = true := decide_eq_true c13;clear c13;replace H := Option.bind_eq_some_iff.mp H;obtain ⟨⟨t114, t115, t116⟩, A140, H⟩ := H;try dsimp only at H
       have A14 := qa A140;clear A140;have HC15 := qa H;clear H;have p112 : 0 ≤ (x29_2 : Int) := qD;have q112 : x29_2 < (l2.length : Int) := qD;obtain ⟨ad112, e112, hx112_0, hx112_1⟩ := at_T53 HR2.out x29_2 p112 q112;cases e112;replace hx112_0 := qx HB hx112_0;replace hx112_1 := qx HB hx112_1;replace p112 := eq_true p112;replace q112 := eq_true q112;go_upto_region 8 with (first | ((with_reducible refine gate_dst (N := 9) rfl ?_); (try (refine gate_guard (by rfl) ?_; dsimp only)); refine box_event rfl (N := 9) rfl (cs := #[.int .i64 0, .int .u64 0]) (t := 53) qW ?_; intro gb113 hg w16 hbox hb; replace HO_7 := qa (Kd.R_below (qR HO_7.out) hb); have BK113 := qa (hbox); have GW113 := qg w hg; replace HB := qa (below_step (qB) hb); clear hb hbox hg; have hcz17 := blk_cell BK113.out; have hfz17 := blk_frozen BK113.out) | (go_at_call 31; (with_reducible refine (spec_l2Need.calls k2 ((rd_T53 l2 x29_2).f0) t114 t115 t116 _ A14.out).mono ?_); rintro e w' ⟨rfl, ⟨nd, rfl⟩⟩))
       (try simp only [Act.put, List.setIfInBounds_toArray, List.set_cons_zero, List.set_cons_succ])
       go_cut [54] (fun v54 wc => ∃ (kq : Nat) (x54_14 : Bool), v54 = .bool x54_14 ∧ Aside0 (spec_l2Kind.j2 kq a0 a1 x7_2 t114 t115 t116 l2 (l2.length : Int) x29_2 x54_14 = some r) ∧ Aside0 (kq ≤ k2) ∧ Aside0 (Kd.R (Kd.int .i64) 3 wc w.heap.size (fun _ => True) u7 x7_2) ∧ Aside0 (wc.heap[gb113]? = some (.cells #[.int .i64 ((rd_T53 l2 x29_2).f0), .int .u64 ((rd_T53 l2 x29_2).f1)] 53 (0, 0))) ∧ Aside0 (Below w.heap.size w wc))
       case first =>
        have H := HC15.out;clear HC15;by_cases c18 : t116 = 0
        ·rw [if_pos c18] at H;obtain ⟨c18b0, c18b1⟩ := qb1 c18;clear c18;(first | rw [c18b0] | (simp only [i64_w, i32_w]; rw [c18b0]) | skip)
         have H' := qa H;clear H;go_wp2
         go_meet
         case rel => exact ⟨_, (true), qS, H', ⟨by have := HJ3.out; have := HK2.out; first | omega | exact Nat.le_refl _⟩, ⟨by (with_reducible repeat (first | apply Kd.R_alloc | apply Kd.R_drewN | apply Kd.R_drew)); exact Kd.R_mono (Kd.R_far (p := ⟨gb113, 1, none⟩) (Kd.R_far (p := ⟨gb113, 0, none⟩) (Kd.R_types HO_7.out BK113.out (by decide)) (fun _ hk => hk.2) (.int .i64 ((rd_T53 l2 x29_2).f0))) (fun _ hk => hk.2) (.int .u64 ((rd_T53 l2 x29_2).f1))) (fun _ hk => trivial)⟩, ⟨qP BK113.out⟩, ⟨qB⟩⟩
        ·rw [if_neg c18] at H;obtain ⟨c18b0, c18b1⟩ := qb0 c18;(first | rw [c18b0] | (simp only [i64_w, i32_w]; rw [c18b0]) | skip)
         replace H := Option.bind_eq_some_iff.mp H;obtain ⟨t117, A190, H⟩ := H;try dsimp only at H
         have A19 := qa A190;clear A190;by_cases c20 : t117 = true
         ·subst c20;rw [if_pos rfl] at H;have H' := qa H;clear H;have hcz21 := blk_cell BK113.out;have hcz21_1 := blk_cell BK113.out 1;have hfz21 := blk_frozen BK113.out;have hfz21_1 := blk_frozen BK113.out 1;go_wp2_with (first | (go_at_call 32; (with_reducible refine (spec_l2N.calls k2 a0 a1 ((rd_T53 l2 x29_2).f0) ((rd_T53 l2 x29_2).f1) true _ A19.out).mono ?_); rintro e w22 ⟨rfl, hb⟩; replace HO_7 := qa (Kd.R_below (by (with_reducible repeat (first | apply Kd.R_alloc | apply Kd.R_drewN | apply Kd.R_drew)); exact (Kd.R_mono (Kd.R_far (p := ⟨gb113, 1, none⟩) (Kd.R_far (p := ⟨gb113, 0, none⟩) (Kd.R_types HO_7.out BK113.out (by decide)) (fun _ hk => hk.2) (.int .i64 ((rd_T53 l2 x29_2).f0))) (fun _ hk => hk.2) (.int .u64 ((rd_T53 l2 x29_2).f1))) (fun _ h_ => h_.1))) hb); replace BK113 := qa (blk_below (g := gb113) (o := .cells #[.int .i64 ((rd_T53 l2 x29_2).f0), .int .u64 ((rd_T53 l2 x29_2).f1)] 53 (0, 0)) (qP BK113.out) hb); replace HB := qa (below_step (qB) hb); (try clear hb); (try clear hb2); (try clear hk); (try clear hi); obtain ⟨Ao23, co23, eo23⟩ := Kd.R_slice HO_7.out; subst eo23))
          go_meet
          case rel => exact ⟨_, (decide ((x7_2.length : Int) < t114)), qS, H', ⟨by have := HJ3.out; have := HK2.out; first | omega | exact Nat.le_refl _⟩, ⟨qR HO_7.out⟩, ⟨qK BK113.out⟩, ⟨qB⟩⟩
         ·replace c20 := Bool.eq_false_iff.mpr c20;subst c20;rw [if_neg (show ¬ (false = true) by decide)] at H;have H' := qa H;clear H;have hcz24 := blk_cell BK113.out;have hcz24_1 := blk_cell BK113.out 1;have hfz24 := blk_frozen BK113.out;have hfz24_1 := blk_frozen BK113.out 1;go_wp2_with (first | (go_at_call 32; (with_reducible refine (spec_l2N.calls k2 a0 a1 ((rd_T53 l2 x29_2).f0) ((rd_T53 l2 x29_2).f1) false _ A19.out).mono ?_); rintro e w25 ⟨rfl, hb⟩; replace HO_7 := qa (Kd.R_below (by (with_reducible repeat (first | apply Kd.R_alloc | apply Kd.R_drewN | apply Kd.R_drew)); exact (Kd.R_mono (Kd.R_far (p := ⟨gb113, 1, none⟩) (Kd.R_far (p := ⟨gb113, 0, none⟩) (Kd.R_types HO_7.out BK113.out (by decide)) (fun _ hk => hk.2) (.int .i64 ((rd_T53 l2 x29_2).f0))) (fun _ hk => hk.2) (.int .u64 ((rd_T53 l2 x29_2).f1))) (fun _ h_ => h_.1))) hb); replace BK113 := qa (blk_below (g := gb113) (o := .cells #[.int .i64 ((rd_T53 l2 x29_2).f0), .int .u64 ((rd_T53 l2 x29_2).f1)] 53 (0, 0)) (qP BK113.out) hb); replace HB := qa (below_step (qB) hb); (try clear hb); (try clear hb2); (try clear hk); (try clear hi)))
          go_meet
          case rel => exact ⟨_, (true), qS, H', ⟨by have := HJ3.out; have := HK2.out; first | omega | exact Nat.le_refl _⟩, ⟨qR HO_7.out⟩, ⟨qK BK113.out⟩, ⟨qB⟩⟩
       case rest =>
        clear HC15;obtain ⟨kq, x54_14, rfl, HA, HJ14, HO_7, BK113, HB⟩ := hcut;cases kq with
        | zero => exact absurd HA.out (by simp [spec_l2Kind.j2])
        | succ kj14 =>
         have H := HA.out;clear HA;simp only [spec_l2Kind.j2] at H;by_cases c26 : x54_14 = true
         ·subst c26;rw [if_pos rfl] at H;obtain rfl := Option.some.inj H;go_wp2
          go_ret
          exact ⟨qE, qB⟩
         ·replace c26 := Bool.eq_false_iff.mpr c26;subst c26;rw [if_neg (show ¬ (false = true) by decide)] at H;have H' := qa H;clear H;go_wp2
          go_loopg [7, 10] kj14 (fun kq v7 v10 w' => ∃ (x7_4 : List Int) (x10_4 : Int), v10 = .int .i64 x10_4 ∧ Aside0 (spec_l2Kind.l1 kq a0 a1 x7_4 x10_4 t115 t116 l2 (l2.length : Int) x29_2 = some r) ∧ Aside0 (kq ≤ kj14) ∧ Aside0 (Kd.R (Kd.int .i64) 3 w' w.heap.size (fun _ => True) v7 x7_4) ∧ Aside0 (w'.heap[gb113]? = some (.cells #[.int .i64 ((rd_T53 l2 x29_2).f0), .int .u64 ((rd_T53 l2 x29_2).f1)] 53 (0, 0))) ∧ Aside0 (Below w.heap.size w w'))
          case atStart => exact ⟨(x7_2), (t114), qS, H', ⟨Nat.le_refl _⟩, ⟨qR HO_7.out⟩, ⟨qK BK113.out⟩, ⟨qB⟩⟩
          case round =>
           clear H';obtain ⟨x7_4, x10_4, rfl, HA, HK4, HO_7, BK113, HB⟩ := hrel;cases gk with
           | zero => exact absurd HA.out (by simp [spec_l2Kind.l1])
           | succ k4 =>
            have H := HA.out;clear HA;simp only [spec_l2Kind.l1] at H;by_cases c27 : x10_4 > 0
            ·rw [if_pos c27] at H;have c27b0 : decide (0 < x10_4) = true := decide_eq_true c27;clear c27;obtain ⟨ji28, hji28⟩ : ∃ j_ : Int, (wrap64 ((x7_4.length : Int) - 1)) = j_ := ⟨_, rfl⟩;replace H : (if 0 ≤ (ji28) then (if (ji28) < (x7_4.length : Int) then (if (rd x7_4 (ji28)) = t115 then (if (ji28) ≤ (x7_4.length : Int) then (spec_l2Kind.l1 k4 a0 a1 (x7_4.take ((ji28) : Int).toNat) (wrap64 (x10_4 - 1)) t115 t116 l2 (l2.length : Int) x29_2) else (none)) else (some 0)) else (none)) else (none)) = some r := (by first | (rw [hji28] at H; exact H) | (simp only [hji28] at H ⊢; exact H));have hji28w : (IntKind.i64.wrap ((x7_4.length : Int) - 1)) = ji28 := (i64_w _).trans hji28;obtain ⟨c29, H⟩ := qI H;have c29b0 : decide (0 ≤ (ji28)) = true := decide_eq_true c29;clear c29;obtain ⟨c30, H⟩ := qI H;have c30b0 : decide ((ji28) < (x7_4.length : Int)) = true := decide_eq_true c30;clear c30;by_cases c31 : (rd x7_4 (ji28)) = t115
             ·rw [if_pos c31] at H;obtain ⟨c31b0, c31b1⟩ := qb1 c31;clear c31;obtain ⟨c32, H⟩ := qI H;have c32b0 := eq_true c32;have c32b1 : decide ((ji28) ≤ (x7_4.length : Int)) = true := decide_eq_true c32;clear c32;obtain ⟨y119, hy119⟩ : ∃ y_ : List Int, y_ = (x7_4.take ((ji28) : Int).toNat) := ⟨_, rfl⟩;rw [← hy119] at H;try rw [Option.bind_some] at H
              have Ny119 := qa hy119;clear hy119;have H' := qa H;clear H;obtain ⟨Ao33, co33, eo33⟩ := Kd.R_slice HO_7.out;subst eo33;have p118 : 0 ≤ ((ji28) : Int) := qD;have q118 : (ji28) < (x7_4.length : Int) := qD;obtain ⟨ad118, e118, hx118_0⟩ := Kd.at_int (Kd.R_reads' HO_7.out).2.2 (ji28) p118 q118;cases e118;replace p118 := eq_true p118;replace q118 := eq_true q118;have q34 : ((ji28) : Int) ≤ ((x7_4.length : Int) : Int) := qD;obtain ⟨i034, hi034, _, hsz34, _⟩ := info_parts info3;have hcut34 := cut_to (P := Tryz.prog) 35 3 .i64 Tryz.underlying35 hi034 (some ad118) x7_4.length co33 (ji28) qD q34 (Kd.R_reads' HO_7.out).2.1;have hr34 := Kd.R_take (m := ((ji28) : Int).toNat) HO_7.out (by omega);have hy34 : y119.length = ((ji28) : Int).toNat := (by rw [Ny119.out, List.length_take]; omega);rw [← Ny119.out] at hr34;rw [← hy34] at hr34 hcut34;clear hy34 hi034 hsz34 HO_7;have HO121 := qa hr34;clear hr34;replace q34 := eq_true q34;go_wp2
              go_roundg k4;case measure => have := HJ3.out; have := HK2.out; have := HJ14.out; have := HK4.out; omega
              case rel => exact ⟨(y119), (wrap64 (x10_4 - 1)), qS, H', ⟨by have := HJ3.out; have := HK2.out; have := HJ14.out; have := HK4.out; omega⟩, ⟨qR HO121.out⟩, ⟨qK BK113.out⟩, ⟨qB⟩⟩
             ·rw [if_neg c31] at H;obtain ⟨c31b0, c31b1⟩ := qb0 c31;obtain rfl := Option.some.inj H;obtain ⟨Ao35, co35, eo35⟩ := Kd.R_slice HO_7.out;subst eo35;have p118 : 0 ≤ ((ji28) : Int) := qD;have q118 : (ji28) < (x7_4.length : Int) := qD;obtain ⟨ad118, e118, hx118_0⟩ := Kd.at_int (Kd.R_reads' HO_7.out).2.2 (ji28) p118 q118;cases e118;replace p118 := eq_true p118;replace q118 := eq_true q118;go_wp2
              go_ret
              exact ⟨by first | rfl | (simp [errW_none, errW_some] <;> rfl) | (simp only [← hji28]; first | rfl | (simp [errW_none, errW_some] <;> rfl)) | (simp [*, errW_none, errW_some] <;> rfl), qB⟩
            ·rw [if_neg c27] at H;have c27b0 : decide (0 < x10_4) = false := decide_eq_false c27;clear c27;obtain ⟨c36, H⟩ := qI H;have LMc36 := qa c36;clear c36;obtain ⟨y122, hy122⟩ : ∃ y_ : List Int, y_ = (x7_4 ++ [t116]) := ⟨_, rfl⟩;rw [← hy122] at H;try rw [Option.bind_some] at H
             have Ny122 := qa hy122;clear hy122;have H' := qa H;clear H;go_wp2_with (first | ((with_reducible refine gate_builtin (b := .append) (xs := #[.tmp 72, .tmp 74]) rfl ?_); (try (refine gate_guard (by rfl) ?_; dsimp only)); at_builtin; refine Kd.R_append (Kd.int .i64) (w0 := w) w.heap.size rfl (.tmp 72) (.tmp 74) 35 3 (.int .i64 0) 8 rfl Tryz.underlying35 info3 rfl (by decide) (by omega) u7 x7_4 t116 [.int .i64 t116] (fun _ => True) (fun _ => False) rfl rfl ?aP (fun _ hk => hk.elim) ?aF ?aO ?aB ?aS ?aL ?_; (case aP => exact rfl); (case aB => exact (qB)); (case aF => exact (fun _ _ => trivial)); (case aO => exact (qR HO_7.out)); (case aS => exact (below_size (qB))); (case aL => have := LMc36.out; omega); intro v123 w37 ho hb hg hat; rw [← Ny122.out] at ho; replace BK113 := qa (blk_grown (g := gb113) (o := .cells #[.int .i64 ((rd_T53 l2 x29_2).f0), .int .u64 ((rd_T53 l2 x29_2).f1)] 53 (0, 0)) (qK BK113.out) hg (Kd.R_ne HO_7.out BK113.out (by decide))); replace HB := qa (hb); have HO124 := qa (ho); clear HO_7; clear ho hb hg hat))
             go_roundg k4;case measure => have := HJ3.out; have := HK2.out; have := HJ14.out; have := HK4.out; omega
             case rel => exact ⟨(y122), (wrap64 (x29_2 + 1)), qS, H', ⟨by have := HJ3.out; have := HK2.out; have := HJ14.out; have := HK4.out; omega⟩, ⟨qR HO124.out⟩, ⟨qB⟩⟩
      ·rw [if_neg c11] at H;have c11b0 := decide_eq_false c11;clear c11;by_cases c38 : (x7_2.length : Int) = 1
       ·rw [if_pos c38] at H;obtain ⟨c38b0, c38b1⟩ := qb1 c38;clear c38;obtain ⟨c39, H⟩ := qI H;have c39b0 : decide (0 < (x7_2.length : Int)) = true := decide_eq_true c39;have c39b1 : decide (0 < x7_2.length) = true := decide_eq_true (by omega);clear c39;obtain rfl := Option.some.inj H;obtain ⟨Ao40, co40, eo40⟩ := Kd.R_slice HO_7.out;subst eo40;have p111 : 0 ≤ (0 : Int) := (by omega);have q111 : 0 < (x7_2.length : Int) := qD;obtain ⟨ad111, e111, hx111_0⟩ := Kd.at_int (Kd.R_reads' HO_7.out).2.2 0 p111 q111;cases e111;have qi111 : (0 < x7_2.length) = True := eq_true (by omega);(try rw [show ((0 : Int)).toNat = 0 from rfl] at hx111_0)
        (try rw [Addr.add_zero'] at hx111_0)
        replace p111 := eq_true p111;replace q111 := eq_true q111;go_wp2
        go_ret
        exact ⟨qE, qB⟩
       ·rw [if_neg c38] at H;obtain ⟨c38b0, c38b1⟩ := qb0 c38;obtain rfl := Option.some.inj H;obtain ⟨Ao41, co41, eo41⟩ := Kd.R_slice HO_7.out;subst eo41;go_wp2
        go_ret
        exact ⟨qE, qB⟩
def spec_GoodTerm.f (k : Nat) (a0 : Int) (a1 : Int) (l2 : List (S53)) : Option (Bool) := (spec_l2Kind.f k a0 a1 l2).bind fun t125 => (some (decide (t125 > 0)))
theorem spec_GoodTerm.mono : ∀ a0 a1 a2 k, LeO (spec_GoodTerm.f k a0 a1 a2) (spec_GoodTerm.f (k + 1) a0 a1 a2) := by
 intro a0 a1 a2 k;unfold spec_GoodTerm.f;have m0 := @spec_l2Kind.mono; exact qM
theorem spec_GoodTerm.calls (k : Nat) (a0 : Int) (a1 : Int) (A2 : Option Addr) (c2 : Nat) (l2 : List (S53)) (r : Bool) (w : World) (hr2 : Kd.C k53 w A2 l2.length l2) (hc2 : l2.length ≤ c2) (h : spec_GoodTerm.f k a0 a1 l2 = some r) :
  Calls Tryz.prog 51 #[.int .i64 a0, .int .i64 a1, .slice A2 l2.length c2] w fun e w' => e = .returned (.bool r) ∧ Below w.heap.size w w' := by
 have HR2 := qa hr2;have HC2 := qa hc2;clear hr2 hc2;have HB := qa (Below.refl w.heap.size w);have H := h;unfold spec_GoodTerm.f at H;clear h;replace H := Option.bind_eq_some_iff.mp H;obtain ⟨t125, A40, H⟩ := H;try dsimp only at H
 have A4 := qa A40;clear A40;obtain rfl := Option.some.inj H;go_enter Tryz.func51, Tryz.ntmps51
 go_wp2_with (first | (go_at_call 14; (with_reducible refine (spec_l2Kind.calls k a0 a1 _ _ l2 t125 _ ?side1 ?side2 A4.out).mono ?_); (case side1 => exact qC HR2.out); (case side2 => exact HC2.out); rintro e w5 ⟨rfl, hb⟩; replace HB := qa (below_step (qB) hb); (try clear hb); (try clear hb2); (try clear hk); (try clear hi)))
 go_ret
 exact ⟨qE, qB⟩
def spec_IsPlain.l0 : Nat → List (S53) → Int → Int → Option (Bool × Bool)
 | 0, _, _, _ => none
 | k + 1, x15, x16, x17 => if x17 < x16 then (if 0 ≤ x17 then (if x17 < (x15.length : Int) then (if ((rd_T53 x15 x17).f0) = 6 then (some (false, true)) else (if ((rd_T53 x15 x17).f0) = 7 then (some (false, true)) else (if ((rd_T53 x15 x17).f0) = 11 then (some (false, true)) else (if ((rd_T53 x15 x17).f0) = 12 then (some (false, true)) else (spec_IsPlain.l0 k x15 x16 (wrap64 (x17 + 1))))))) else (none)) else (none)) else (some (true, true))
def spec_IsPlain.f (k : Nat) (a0 : Int) (a1 : Int) (l2 : List (S53)) : Option (Bool × Bool) := (spec_GoodTerm.f k a0 a1 l2).bind fun t126 => (if t126 = true then (spec_IsPlain.l0 k l2 (l2.length : Int) 0) else (some (false, false)))
theorem spec_IsPlain.mono_l : ∀ k, (∀ y0 y1 y2, LeO (spec_IsPlain.l0 k y0 y1 y2) (spec_IsPlain.l0 (k + 1) y0 y1 y2))
 | 0 => fun _ _ _ r h => by simp [spec_IsPlain.l0] at h
 | k + 1 => by
  have ih0 := spec_IsPlain.mono_l k
  ·intros;unfold spec_IsPlain.l0;have m0 := @spec_GoodTerm.mono; exact qM
theorem spec_IsPlain.mono : ∀ a0 a1 a2 k, LeO (spec_IsPlain.f k a0 a1 a2) (spec_IsPlain.f (k + 1) a0 a1 a2) := by
 intro a0 a1 a2 k;have ih0 := spec_IsPlain.mono_l k;unfold spec_IsPlain.f;have m0 := @spec_GoodTerm.mono; exact qM
theorem spec_IsPlain.calls (k : Nat) (a0 : Int) (a1 : Int) (A2 : Option Addr) (c2 : Nat) (l2 : List (S53)) (r1 : Bool) (r2 : Bool) (w : World) (hr2 : Kd.C k53 w A2 l2.length l2) (hc2 : l2.length ≤ c2) (h : spec_IsPlain.f k a0 a1 l2 = some (r1, r2)) :
  Calls Tryz.prog 26 #[.int .i64 a0, .int .i64 a1, .slice A2 l2.length c2] w fun e w' => e = .returned (.tuple #[.bool r1, .bool r2]) ∧ Below w.heap.size w w' := by
 have hu53 := Tryz.underlying53;have HR2 := qa hr2;have HC2 := qa hc2;clear hr2 hc2;have HB := qa (Below.refl w.heap.size w);have H := h;unfold spec_IsPlain.f at H;clear h;replace H := Option.bind_eq_some_iff.mp H;obtain ⟨t126, A40, H⟩ := H;try dsimp only at H
 have A4 := qa A40;clear A40;by_cases c5 : t126 = true
 ·subst c5;rw [if_pos rfl] at H;have H' := qa H;clear H;go_enter Tryz.func26, Tryz.ntmps26
  go_wp2_with (first | (go_at_call 51; (with_reducible refine (spec_GoodTerm.calls k a0 a1 _ _ l2 true _ ?side1 ?side2 A4.out).mono ?_); (case side1 => exact qC HR2.out); (case side2 => exact HC2.out); rintro e w6 ⟨rfl, hb⟩; replace HB := qa (below_step (qB) hb); (try clear hb); (try clear hb2); (try clear hk); (try clear hi)))
  go_loopg [17] k (fun kq v17 w' => ∃ (x17_1 : Int), v17 = .int .i64 x17_1 ∧ Aside0 (spec_IsPlain.l0 kq l2 (l2.length : Int) x17_1 = some (r1, r2)) ∧ Aside0 (kq ≤ k) ∧ Aside0 (Below w.heap.size w w'))
  case atStart => exact ⟨(0), qS, H', ⟨Nat.le_refl _⟩, ⟨qB⟩⟩
  case round =>
   clear H';obtain ⟨x17_1, rfl, HA, HK1, HB⟩ := hrel;cases gk with
   | zero => exact absurd HA.out (by simp [spec_IsPlain.l0])
   | succ k1 =>
    have H := HA.out;clear HA;simp only [spec_IsPlain.l0] at H;by_cases c7 : x17_1 < (l2.length : Int)
    ·rw [if_pos c7] at H;have c7b0 := decide_eq_true c7;clear c7;obtain ⟨c8, H⟩ := qI H;have c8b0 : decide (0 ≤ x17_1) = true := decide_eq_true c8;clear c8;obtain ⟨c9, H⟩ := qI H;have c9b0 : decide (x17_1 < (l2.length : Int)) = true := decide_eq_true c9;clear c9;by_cases c10 : ((rd_T53 l2 x17_1).f0) = 6
     ·rw [if_pos c10] at H;obtain ⟨c10b0, c10b1⟩ := qb1 c10;clear c10;simp only [Option.some.injEq, Prod.mk.injEq] at H;obtain ⟨rfl, rfl⟩ := H;have p127 : 0 ≤ (x17_1 : Int) := qD;have q127 : x17_1 < (l2.length : Int) := qD;obtain ⟨ad127, e127, hx127_0, hx127_1⟩ := at_T53 HR2.out x17_1 p127 q127;cases e127;replace hx127_0 := qx HB hx127_0;replace hx127_1 := qx HB hx127_1;replace p127 := eq_true p127;replace q127 := eq_true q127;go_wp2_with (first | ((with_reducible refine gate_dst (N := 9) rfl ?_); refine box_event rfl (N := 9) rfl (cs := #[.int .i64 0, .int .u64 0]) (t := 53) qW ?_; intro gb128 hg w11 hbox hb; have BK128 := qa (hbox); have GW128 := qg w hg; replace HB := qa (below_step (qB) hb); clear hb hbox hg; have hcz12 := blk_cell BK128.out; have hfz12 := blk_frozen BK128.out))
      go_ret2
      exact ⟨qE, qB⟩
     ·rw [if_neg c10] at H;obtain ⟨c10b0, c10b1⟩ := qb0 c10;by_cases c13 : ((rd_T53 l2 x17_1).f0) = 7
      ·rw [if_pos c13] at H;obtain ⟨c13b0, c13b1⟩ := qb1 c13;clear c13;simp only [Option.some.injEq, Prod.mk.injEq] at H;obtain ⟨rfl, rfl⟩ := H;have p127 : 0 ≤ (x17_1 : Int) := qD;have q127 : x17_1 < (l2.length : Int) := qD;obtain ⟨ad127, e127, hx127_0, hx127_1⟩ := at_T53 HR2.out x17_1 p127 q127;cases e127;replace hx127_0 := qx HB hx127_0;replace hx127_1 := qx HB hx127_1;replace p127 := eq_true p127;replace q127 := eq_true q127;go_wp2_with (first | ((with_reducible refine gate_dst (N := 9) rfl ?_); refine box_event rfl (N := 9) rfl (cs := #[.int .i64 0, .int .u64 0]) (t := 53) qW ?_; intro gb128 hg w14 hbox hb; have BK128 := qa (hbox); have GW128 := qg w hg; replace HB := qa (below_step (qB) hb); clear hb hbox hg; have hcz15 := blk_cell BK128.out; have hfz15 := blk_frozen BK128.out))
       go_ret2
       exact ⟨qE, qB⟩
      ·rw [if_neg c13] at H;obtain ⟨c13b0, c13b1⟩ := qb0 c13;by_cases c16 : ((rd_T53 l2 x17_1).f0) = 11
       ·rw [if_pos c16] at H;obtain ⟨c16b0, c16b1⟩ := qb1 c16;clear c16;simp only [Option.some.injEq, Prod.mk.injEq] at H;obtain ⟨rfl, rfl⟩ := H;have p127 : 0 ≤ (x17_1 : Int) := qD;have q127 : x17_1 < (l2.length : Int) := qD;obtain ⟨ad127, e127, hx127_0, hx127_1⟩ := at_T53 HR2.out x17_1 p127 q127;cases e127;replace hx127_0 := qx HB hx127_0;replace hx127_1 := qx HB hx127_1;replace p127 := eq_true p127;replace q127 := eq_true q127;go_wp2_with (first | ((with_reducible refine gate_dst (N := 9) rfl ?_); refine box_event rfl (N := 9) rfl (cs := #[.int .i64 0, .int .u64 0]) (t := 53) qW ?_; intro gb128 hg w17 hbox hb; have BK128 := qa (hbox); have GW128 := qg w hg; replace HB := qa (below_step (qB) hb); clear hb hbox hg; have hcz18 := blk_cell BK128.out; have hfz18 := blk_frozen BK128.out))
        go_ret2
        exact ⟨qE, qB⟩
       ·rw [if_neg c16] at H;obtain ⟨c16b0, c16b1⟩ := qb0 c16;by_cases c19 : ((rd_T53 l2 x17_1).f0) = 12
        ·rw [if_pos c19] at H;obtain ⟨c19b0, c19b1⟩ := qb1 c19;clear c19;simp only [Option.some.injEq, Prod.mk.injEq] at H;obtain ⟨rfl, rfl⟩ := H;have p127 : 0 ≤ (x17_1 : Int) := qD;have q127 : x17_1 < (l2.length : Int) := qD;obtain ⟨ad127, e127, hx127_0, hx127_1⟩ := at_T53 HR2.out x17_1 p127 q127;cases e127;replace hx127_0 := qx HB hx127_0;replace hx127_1 := qx HB hx127_1;replace p127 := eq_true p127;replace q127 := eq_true q127;go_wp2_with (first | ((with_reducible refine gate_dst (N := 9) rfl ?_); refine box_event rfl (N := 9) rfl (cs := #[.int .i64 0, .int .u64 0]) (t := 53) qW ?_; intro gb128 hg w20 hbox hb; have BK128 := qa (hbox); have GW128 := qg w hg; replace HB := qa (below_step (qB) hb); clear hb hbox hg; have hcz21 := blk_cell BK128.out; have hfz21 := blk_frozen BK128.out))
         go_ret2
         exact ⟨qE, qB⟩
        ·rw [if_neg c19] at H;obtain ⟨c19b0, c19b1⟩ := qb0 c19;have H' := qa H;clear H;have p127 : 0 ≤ (x17_1 : Int) := qD;have q127 : x17_1 < (l2.length : Int) := qD;obtain ⟨ad127, e127, hx127_0, hx127_1⟩ := at_T53 HR2.out x17_1 p127 q127;cases e127;replace hx127_0 := qx HB hx127_0;replace hx127_1 := qx HB hx127_1;replace p127 := eq_true p127;replace q127 := eq_true q127;go_wp2_with (first | ((with_reducible refine gate_dst (N := 9) rfl ?_); refine box_event rfl (N := 9) rfl (cs := #[.int .i64 0, .int .u64 0]) (t := 53) qW ?_; intro gb128 hg w22 hbox hb; have BK128 := qa (hbox); have GW128 := qg w hg; replace HB := qa (below_step (qB) hb); clear hb hbox hg; have hcz23 := blk_cell BK128.out; have hfz23 := blk_frozen BK128.out))
         go_roundg k1;case measure => have := HK1.out; omega
         case rel => exact ⟨(wrap64 (x17_1 + 1)), qS, H', ⟨by have := HK1.out; omega⟩, ⟨qB⟩⟩
    ·rw [if_neg c7] at H;have c7b0 := decide_eq_false c7;clear c7;simp only [Option.some.injEq, Prod.mk.injEq] at H;obtain ⟨rfl, rfl⟩ := H;go_wp2
     go_ret2
     exact ⟨qE, qB⟩
 ·replace c5 := Bool.eq_false_iff.mpr c5;subst c5;rw [if_neg (show ¬ (false = true) by decide)] at H;simp only [Option.some.injEq, Prod.mk.injEq] at H;obtain ⟨rfl, rfl⟩ := H;go_enter Tryz.func26, Tryz.ntmps26
  go_wp2_with (first | (go_at_call 51; (with_reducible refine (spec_GoodTerm.calls k a0 a1 _ _ l2 false _ ?side1 ?side2 A4.out).mono ?_); (case side1 => exact qC HR2.out); (case side2 => exact HC2.out); rintro e w24 ⟨rfl, hb⟩; replace HB := qa (below_step (qB) hb); (try clear hb); (try clear hb2); (try clear hk); (try clear hi)))
  go_ret2
  exact ⟨qE, qB⟩
def spec_l5Wide.f (a0 : Int) : Option (Bool) := (spec_l1In.f a0 1 4).bind fun t129 => (some t129)
theorem spec_l5Wide.calls (a0 : Int) (r : Bool) (w : World) (h : spec_l5Wide.f a0 = some r) :
  Calls Tryz.prog 27 #[.int .i64 a0] w fun e w' => e = .returned (.bool r) ∧ Drawn0 w w' := by
 have H := h;unfold spec_l5Wide.f at H;clear h;replace H := Option.bind_eq_some_iff.mp H;obtain ⟨t129, A20, H⟩ := H;try dsimp only at H
 have A2 := qa A20;clear A20;obtain rfl := Option.some.inj H;go_enter Tryz.func27, Tryz.ntmps27
 go_wp2_with (first | (go_at_call 15; (with_reducible refine (spec_l1In.calls a0 1 4 t129 _ A2.out).mono ?_); rintro e w' ⟨rfl, ⟨nd, rfl⟩⟩))
 go_ret
 exact ⟨qS, qT⟩
def spec_l4Wires.f (a0_0 : Int) (l0_1 : List (S75)) (l0_2 : List Int) : Option (Int) := some (wrap64 (a0_0 + (l0_1.length : Int)))
theorem spec_l4Wires.calls (a0_0 : Int) (A0_1 : Option Addr) (c0_1 : Nat) (l0_1 : List (S75)) (A0_2 : Option Addr) (c0_2 : Nat) (l0_2 : List Int) (r : Int) (w : World) (hr0_1 : Kd.C k75 w A0_1 l0_1.length l0_1) (hc0_1 : l0_1.length ≤ c0_1) (hr0_2 : Kd.C (Kd.int .i64) w A0_2 l0_2.length l0_2) (hc0_2 : l0_2.length ≤ c0_2) (h : spec_l4Wires.f a0_0 l0_1 l0_2 = some r) :
  Calls Tryz.prog 35 #[.agg #[.int .i64 a0_0, .slice A0_1 l0_1.length c0_1, .slice A0_2 l0_2.length c0_2]] w fun e w' => e = .returned (.int .i64 r) ∧ Below w.heap.size w w' := by
 have hu37 := Tryz.underlying37;have HR0_1 := qa hr0_1;have HC0_1 := qa hc0_1;clear hr0_1 hc0_1;have HR0_2 := qa hr0_2;have HC0_2 := qa hc0_2;clear hr0_2 hc0_2;have HB := qa (Below.refl w.heap.size w);have H := h;unfold spec_l4Wires.f at H;clear h;obtain rfl := Option.some.inj H;go_enter Tryz.func35, Tryz.ntmps35
 go_wp2_with (first | ((with_reducible refine gate_dst (N := 1) rfl ?_); refine box_event rfl (N := 1) rfl (cs := #[.int .i64 a0_0, .slice A0_1 l0_1.length c0_1, .slice A0_2 l0_2.length c0_2]) (t := 37) qW ?_; intro gb130 hg w2 hbox hb; have BK130 := qa (hbox); have GW130 := qg w hg; replace HB := qa (below_step (qB) hb); clear hb hbox hg; have hcz3 := blk_cell BK130.out; have hfz3 := blk_frozen BK130.out))
 go_ret
 exact ⟨qE, qB⟩
structure Fr (tG G base : Nat) (w w' : World) : Prop where
 os : w'.os = w.os
 tape : w'.tape = w.tape
 output : w'.output = w.output
 size : w.heap.size ≤ w'.heap.size
 block : ∀ k, k < w.heap.size → k ≠ G → (base ≤ k → ∀ c, w.heap[k]? ≠ some (.cells c tG (0, 0))) → w'.heap[k]? = w.heap[k]?
section
variable {tC tG tI G base B : Nat} {w w1 w2 w' W : World}
theorem Fr.refl (tG G base : Nat) (w : World) : Fr tG G base w w := ⟨rfl, rfl, rfl, Nat.le_refl _, fun _ _ _ _ => rfl⟩
theorem Fr.trans (h : Fr tG G base w w1) (h2 : Fr tG G base w1 w2) : Fr tG G base w w2 :=
 ⟨h2.os.trans h.os, h2.tape.trans h.tape, h2.output.trans h.output, Nat.le_trans h.size h2.size, fun k hk hG ht => by
  have e := h.block k hk hG ht;exact (h2.block k (Nat.lt_of_lt_of_le hk h.size) hG (fun hb c => by rw [e]; exact ht hb c)).trans e⟩
theorem Fr.of_below (h : Below w.heap.size w w1) : Fr tG G base w w1 := ⟨h.os, h.tape, h.output, h.size, fun k hk _ _ => h.block k hk⟩
theorem Fr.step_below (h : Fr tG G base w w1) (h2 : Below w1.heap.size w1 w2) : Fr tG G base w w2 := h.trans (Fr.of_below h2)
theorem Fr.alloc (h : Fr tG G base w w1) (o : Obj) : Fr tG G base w (w1.alloc o) := h.step_below (below_alloc (Below.refl _ _) o)
theorem Fr.drewN (h : Fr tG G base w w1) (n : Nat) : Fr tG G base w (w1.drewN n) := h.step_below (pw_below_drewN (Below.refl _ _) n)
theorem Fr.drew (h : Fr tG G base w w1) : Fr tG G base w w1.drew := h.step_below (below_drew (Below.refl _ _))
theorem Fr.below (h : Fr tG G base w w1) (hG : B ≤ G) (hb : B ≤ base) (hB : B ≤ w.heap.size) : Below B w w1 :=
 ⟨h.os, h.tape, h.output, h.size, fun k hk => h.block k (by omega) (by omega) (fun h2 => absurd h2 (by omega))⟩
theorem Fr.grown_own {row : Option Nat} (hg : W.grownBy w1 row) (hr : ∀ k, row = some k → base ≤ k ∧ ∃ c, W.heap[k]? = some (.cells c tG (0, 0))) : Fr tG G base W w1 :=
 ⟨hg.os, hg.tape, hg.output, hg.size, fun k hk _ ht => hg.block k hk (fun he => by
  obtain ⟨hb, c, hc⟩ := hr k he.symm;exact ht hb c hc)⟩
theorem Fr.grown_new {row : Option Nat} (h : Fr tG G base w W) (hg : W.grownBy w1 row) (hr : ∀ k, row = some k → w.heap.size ≤ k) : Fr tG G base w w1 :=
 ⟨hg.os.trans h.os, hg.tape.trans h.tape, hg.output.trans h.output, Nat.le_trans h.size hg.size, fun k hk hG ht =>
  (hg.block k (Nat.lt_of_lt_of_le hk h.size) (fun he => by have := hr k he.symm; omega)).trans (h.block k hk hG ht)⟩
theorem Fr.setG (h : Fr tG G base w W) (j : Nat) (v : Value) : Fr tG G base w (W.setCell ⟨G, j, none⟩ v) :=
 h.trans ⟨rfl, rfl, rfl, by simp [World.setCell], fun k _ hG _ => Below.heap_setCell W ⟨G, j, none⟩ v k hG⟩
theorem Fr.blk (h : Fr tG G base w w1) {k : Nat} {c : Array Value} {t : Nat} (hk : w.heap[k]? = some (.cells c t (0, 0))) (hG : k ≠ G) (ht : t ≠ tG) : w1.heap[k]? = some (.cells c t (0, 0)) :=
 (h.block k (blk_lt hk) hG (fun _ c' h' => by
  rw [hk] at h';injection h' with h';injection h' with _ h';exact ht h')).trans hk
section
variable {α : Type} {d : Kd α} {e e' b n c : Nat} {ok : Nat → Prop} {v u : Value} {A : Option Addr} {xs : List α}
theorem Fr.R (h : Fr tG G base w w1) (ho : d.R e w b ok v xs) (ht : ∀ q, q ∈ e :: d.E → q ≠ tG) (hG : ∀ k, ok k → k ≠ G) : d.R e w1 b ok v xs := by
 refine Kd.R_mono (Kd.R_move (Kd.R_bound ho) (fun k hk => ?_)) (fun _ hk => hk.1);obtain ⟨hok, _, hlt, q, hq, cells, hc⟩ := hk;exact h.block k hlt (hG k hok) (fun _ c' h' => by
  rw [hc] at h';injection h' with h';injection h' with _ h';exact ht q hq h')
theorem Fr.C_own (ho : d.R e w b ok (.slice A n c) xs) (ht : ∀ q, q ∈ e :: d.E → q ≠ tG) (hG : ∀ k, ok k → k ≠ G) : ∀ W', Fr tG G base w W' → d.C W' A xs.length xs := fun W' hk =>
 (Kd.R_reads' (hk.R ho ht hG)).2.2
theorem Fr.C_step (h : ∀ W', Fr tG G base w W' → d.C W' A n xs) (hk : Fr tG G base w w1) : ∀ W', Fr tG G base w1 W' → d.C W' A n xs := fun W' hk' => h W' (hk.trans hk')
end
end
def Bd (tC G base : Nat) (ins : Int) (ov : Value) (w : World) (g : List S75) : Prop :=
 ∃ gv, w.heap[G]? = some (.cells #[.int .i64 ins, gv, ov] tC (0, 0)) ∧ Kd.R k75 75 w base (fun _ => True) gv g
section
variable {tC t G base : Nat} {ins : Int} {ov : Value} {w w1 W : World} {g : List S75}
theorem Bd.below (h : Bd tC G base ins ov w g) (hb : Below w.heap.size w w1) : Bd tC G base ins ov w1 g := by
 obtain ⟨gv, hG, hR⟩ := h;exact ⟨gv, (hb.block _ (blk_lt hG)).trans hG, Kd.R_below hR hb⟩
theorem Bd.alloc (h : Bd tC G base ins ov w g) (o : Obj) : Bd tC G base ins ov (w.alloc o) g := h.below (below_alloc (Below.refl _ _) o)
theorem Bd.drewN (h : Bd tC G base ins ov w g) (n : Nat) : Bd tC G base ins ov (w.drewN n) g := h.below (pw_below_drewN (Below.refl _ _) n)
theorem Bd.drew (h : Bd tC G base ins ov w g) : Bd tC G base ins ov w.drew g := h.below (below_drew (Below.refl _ _))
theorem Bd.gates_other (h : Kd.R k75 75 w base (fun _ => True) ov g) (hm : ∀ k c, k < w.heap.size → w.heap[k]? = some (.cells c 75 (0, 0)) → w1.heap[k]? = w.heap[k]?) : Kd.R k75 75 w1 base (fun _ => True) ov g := by
 refine Kd.R_mono (Kd.R_move (Kd.R_bound h) (fun k hk => ?_)) (fun _ _ => trivial);obtain ⟨_, _, hlt, q, hq, cells, hc⟩ := hk;have hq' : q = 75 := by
  rcases List.mem_cons.mp hq with rfl | hq
  ·rfl
  ·exact absurd hq (by simp [k75, Kd.iso, Kd.pair, Kd.int, Kd.scalar])
 subst hq';exact hm k cells hlt hc
theorem Bd.grown (h : Bd tC G base ins ov W g) {row : Option Nat} (hg : W.grownBy w1 row) (hr : ∀ k, row = some k → ∃ c, W.heap[k]? = some (.cells c t (0, 0))) (hC : t ≠ tC) (ht : t ≠ 75) : Bd tC G base ins ov w1 g := by
 obtain ⟨gv, hG, hR⟩ := h;refine ⟨gv, (hg.block _ (blk_lt hG) (fun he => ?_)).trans hG, Bd.gates_other hR (fun k c hk hc => hg.block k hk (fun he => ?_))⟩
 ·obtain ⟨c, hc⟩ := hr _ he.symm;rw [hG] at hc;injection hc with hc;injection hc with _ hc;exact hC hc.symm
 ·obtain ⟨c', hc'⟩ := hr _ he.symm;rw [hc] at hc';injection hc' with hc';injection hc' with _ hc';exact ht hc'.symm
theorem Bd.set (h : Bd tC G base ins ov W g) {a j : Nat} {c : Array Value} (ha : W.heap[a]? = some (.cells c t (0, 0))) (u : Value) (hC : t ≠ tC) (ht : t ≠ 75) : Bd tC G base ins ov (W.setCell ⟨a, j, none⟩ u) g := by
 obtain ⟨gv, hG, hR⟩ := h;have hne : ∀ k c' t', W.heap[k]? = some (.cells c' t' (0, 0)) → t ≠ t' → k ≠ a := by
  rintro k c' t' hk hn rfl;rw [ha] at hk;injection hk with hk;injection hk with _ hk;exact hn hk
 exact ⟨gv, (Below.heap_setCell W ⟨a, j, none⟩ u G (hne _ _ _ hG hC)).trans hG, Bd.gates_other hR (fun k c' _ hc => Below.heap_setCell W ⟨a, j, none⟩ u k (hne _ _ _ hc ht))⟩
end
theorem info_gate : (Tryz.prog.info? 75).map (fun i => (i.zero, i.size, i.bytes)) = some (some (.agg #[(.int .i64 0), (.int .i64 0), (.int .i64 0)]), 3, 24) := by kernel_rfl
theorem R_fresh (W : World) (e : Nat) (ok : Nat → Prop) (hk : ok W.heap.size) : Kd.R (Kd.int .i64) e (W.alloc (.cells #[] e)) W.heap.size ok (.slice (some ⟨W.heap.size, 0, none⟩) 0 0) [] :=
 ⟨fun k h => by
  have h2 : W.heap.size = k := by simpa [Value.ownBlock] using h
  rw [← h2]; exact hk, [], own_lit W W.heap.size e .i64 [] (Nat.le_refl _) (by simp), Reps.none _ _⟩
theorem own_ge {α : Type} {d : Kd α} {e b : Nat} {ok : Nat → Prop} {w : World} {v : Value} {xs : List α} (h : d.R e w b ok v xs) : ∀ k, v.ownBlock = some k → b ≤ k := Kd.R_base h
theorem info_int : (Tryz.prog.info? 3).map (fun i => (i.zero, i.size, i.bytes)) = some (some (.int .i64 0), 1, 8) := by kernel_rfl
theorem Fr.cellAt {tG G base n kk : Nat} {w W : World} {ad : Addr} {a : List Int} {x : Int} (hf : Fr tG G base w W) (h : ∀ W', Fr tG G base w W' → Kd.C (Kd.int .i64) W' (some ad) n a) (hk : kk < n) (hx : rd a kk = x) : W.cell? (ad.add kk) = some (.int .i64 x) := by
 obtain ⟨ad', e, hc⟩ := Kd.at_int (h W hf) (kk : Int) (by omega) (by omega);cases e;rwa [hx, Int.toNat_natCast] at hc
theorem bd_cell_new {w : World} {p : Addr} {v : Value} (h : w.cell? p = some v) (o : Obj) : (w.alloc o).cell? p = some v :=
 ((Below.refl w.heap.size w).alloc (Nat.le_refl _) o).cell (World.block_lt_of_cell? w _ h) |>.trans h
theorem Fr.cellAtI {tG G base n : Nat} {w W : World} {ad : Addr} {a : List Int} {x i : Int} (hf : Fr tG G base w W) (h : ∀ W', Fr tG G base w W' → Kd.C (Kd.int .i64) W' (some ad) n a) (h0 : 0 ≤ i) (hk : i < n) (hx : rd a i = x) : W.cell? (ad.add i.toNat) = some (.int .i64 x) := by
 obtain ⟨ad', e, hc⟩ := Kd.at_int (h W hf) i h0 hk;cases e;rwa [hx] at hc
theorem R_old_grown {α : Type} {d : Kd α} {e b N : Nat} {ok : Nat → Prop} {W w1 : World} {v : Value} {xs : List α} {row : Option Nat} (h : d.R e W b (fun k => ok k ∧ k < N) v xs) (hg : W.grownBy w1 row) (hr : ∀ k, row = some k → N ≤ k) : d.R e w1 b (fun k => ok k ∧ k < N) v xs :=
 Kd.R_grown h hg (fun k hk he => by have := hr k he.symm; omega)
theorem R_till {α : Type} {d : Kd α} {e b : Nat} {ok : Nat → Prop} {W : World} {v : Value} {xs : List α} (h : d.R e W b ok v xs) : d.R e W b (fun k => ok k ∧ k < W.heap.size) v xs := Kd.R_mono (Kd.R_bound h) (fun _ hk => ⟨hk.1, hk.2.2.1⟩)
theorem R_setI {W : World} {g n cap e b : Nat} {ok : Nat → Prop} {xs : List Int} (h : Kd.R (Kd.int .i64) e W b ok (.slice (some ⟨g, 0, none⟩) n cap) xs) (i : Nat) (hi : i < n) (x : Int) :
  Kd.R (Kd.int .i64) e (W.setCell ⟨g, i, none⟩ (.int .i64 x)) b ok (.slice (some ⟨g, 0, none⟩) n cap) (xs.set i x) ∧ W.grownBy (W.setCell ⟨g, i, none⟩ (.int .i64 x)) (some g) := by
 obtain ⟨c, hcl, hM, hcc, _⟩ := Kd.R_elem h 0 (i : Int) (by omega) (by omega);have h2 := Kd.R_seg h (i : Int) (by omega) (by omega) (c := c) (seg := [.int .i64 x]) (j := 0) hcl (fun j u hu => hcc j u hu) (by simp [Kd.int, Kd.scalar]) (x' := x) (okp := fun _ => False) (by
  have hc1 : c.length = 1 := hcl;match c, hc1 with
  | [c0], _ => simp [Kd.int, Kd.scalar]) (fun _ hk => hk.elim)
 have e1 : (i : Int).toNat * (Kd.int .i64).sz + 0 = i := by simp [Kd.int, Kd.scalar]
 rw [e1, Int.toNat_natCast] at h2;exact h2
theorem R_placeI {W : World} {g n cap e b : Nat} {ok : Nat → Prop} {xs : List Int} (h : Kd.R (Kd.int .i64) e W b ok (.slice (some ⟨g, 0, none⟩) n cap) xs) (i : Nat) (hi : i < n) : (∃ u, W.cell? ⟨g, i, none⟩ = some (.int .i64 u)) ∧ W.frozen? ⟨g, i, none⟩ = false := by
 obtain ⟨c, hcl, hM, hcc, hfr⟩ := Kd.R_elem h 0 (i : Int) (by omega) (by omega);have e1 : (i : Int).toNat * (Kd.int .i64).sz + 0 = i := by simp [Kd.int, Kd.scalar]
 obtain ⟨ad, e, hc⟩ := Kd.at_int (Kd.R_reads' h).2.2 (i : Int) (by omega) (by have := (Kd.R_reads' h).1; omega);cases e;have hf := hfr 0;rw [e1] at hf;rw [Int.toNat_natCast, add_plain] at hc;exact ⟨⟨_, hc⟩, hf⟩
theorem R_new_grown {α : Type} {d : Kd α} {e N : Nat} {ok : Nat → Prop} {W w1 : World} {v : Value} {xs : List α} {row : Option Nat} (h : d.R e W N ok v xs) (hg : W.grownBy w1 row) (hr : ∀ k, row = some k → k < N) : d.R e w1 N ok v xs :=
 Kd.R_mono (Kd.R_grown (Kd.R_bound h) hg (fun k hk he => by have := hr k he.symm; have := hk.2.1; omega)) (fun _ hk => hk.1)
theorem R_one (W : World) (e : Nat) (ok : Nat → Prop) (x : Int) (hk : ok W.heap.size) : Kd.R (Kd.int .i64) e (W.alloc (.cells #[.int .i64 x] e)) W.heap.size ok (.slice (some ⟨W.heap.size, 0, none⟩) 1 1) [x] :=
 ⟨fun k h => by
  have h2 : W.heap.size = k := by simpa [Value.ownBlock] using h
  rw [← h2]; exact hk, [.int .i64 x], own_lit W W.heap.size e .i64 [x] (Nat.le_refl _) (by simp), Reps.one (by simp [Kd.int, Kd.scalar]) (Reps.none _ _)⟩
def emitN (ins : Int) (f : Nat → S75) (g : List S75) : Nat → List S75 × List Int
 | 0 => (g, [])
 | n + 1 => ((emitN ins f g n).1 ++ [f n], (emitN ins f g n).2 ++ [ins + ((emitN ins f g n).1.length : Int)])
theorem emitN_len (ins : Int) (f : Nat → S75) (g : List S75) : ∀ n, (emitN ins f g n).1.length = g.length + n ∧ (emitN ins f g n).2.length = n
 | 0 => ⟨rfl, rfl⟩
 | n + 1 => by
  have h := emitN_len ins f g n;simp only [emitN, List.length_append, List.length_singleton];omega
def addN (ins : Int) (a b : List Int) (c : Int) (g : List S75) : Nat → List S75 × List Int × Int
 | 0 => (g, [], c)
 | n + 1 =>
  let s := addN ins a b c g n
  let d := ins + (s.1.length : Int)
  (s.1 ++ [⟨5, rd a n, rd b n⟩] ++ [⟨5, d, s.2.2⟩] ++ [⟨3, rd a n, rd b n⟩] ++ [⟨3, d, s.2.2⟩] ++ [⟨4, d + 2, d + 3⟩], s.2.1 ++ [d + 1], d + 4)
theorem addN_len (ins : Int) (a b : List Int) (c : Int) (g : List S75) : ∀ n, (addN ins a b c g n).1.length = g.length + 5 * n ∧ (addN ins a b c g n).2.1.length = n
 | 0 => ⟨rfl, rfl⟩
 | n + 1 => by
  have h := addN_len ins a b c g n;simp only [addN, List.length_append, List.length_singleton];omega
def lessN (ins : Int) (a b : List Int) (g : List S75) : Nat → List S75 × Int
 | 0 => (g ++ [⟨1, 0, 0⟩], ins + (g.length : Int))
 | n + 1 =>
  let s := lessN ins a b g n
  let d := ins + (s.1.length : Int)
  (s.1 ++ [⟨5, rd a n, rd b n⟩] ++ [⟨2, d, 0⟩] ++ [⟨3, d + 1, s.2⟩] ++ [⟨2, rd a n, 0⟩] ++ [⟨3, d + 3, rd b n⟩] ++ [⟨4, d + 2, d + 4⟩], d + 5)
theorem lessN_len (ins : Int) (a b : List Int) (g : List S75) : ∀ n, (lessN ins a b g n).1.length = g.length + 1 + 6 * n
 | 0 => by simp [lessN]
 | n + 1 => by
  have h := lessN_len ins a b g n;simp only [lessN, List.length_append, List.length_singleton];omega
def eqN (ins : Int) (a b : List Int) (g : List S75) : Nat → List S75 × Int
 | 0 => (g ++ [⟨1, 1, 0⟩], ins + (g.length : Int))
 | n + 1 =>
  let s := eqN ins a b g n
  let d := ins + (s.1.length : Int)
  (s.1 ++ [⟨5, rd a n, rd b n⟩] ++ [⟨2, d, 0⟩] ++ [⟨3, d + 1, s.2⟩], d + 2)
theorem eqN_len (ins : Int) (a b : List Int) (g : List S75) : ∀ n, (eqN ins a b g n).1.length = g.length + 1 + 3 * n
 | 0 => by simp [eqN]
 | n + 1 => by
  have h := eqN_len ins a b g n;simp only [eqN, List.length_append, List.length_singleton];omega
def mulF (a b : List Int) (k i : Nat) : S75 := if i < k then ⟨1, 0, 0⟩ else ⟨3, rd a ((i : Int) - k), rd b k⟩
def mulN (ins : Int) (a b : List Int) (g : List S75) : Nat → List S75 × List Int
 | 0 => emitN ins (fun _ => ⟨1, 0, 0⟩) g a.length
 | n + 1 =>
  let s := mulN ins a b g n
  let p := emitN ins (mulF a b n) s.1 a.length
  let q := addN ins s.2 p.2 (ins + (p.1.length : Int)) (p.1 ++ [⟨1, 0, 0⟩]) s.2.length
  (q.1, q.2.1)
theorem mulN_len (ins : Int) (a b : List Int) (g : List S75) : ∀ n, (mulN ins a b g n).1.length = g.length + a.length + n * (6 * a.length + 1) ∧ (mulN ins a b g n).2.length = a.length
 | 0 => by
  have h := emitN_len ins (fun _ => ⟨1, 0, 0⟩) g a.length;simp only [mulN];omega
 | n + 1 => by
  have h := mulN_len ins a b g n;simp only [mulN];have h1 := emitN_len ins (mulF a b n) (mulN ins a b g n).1 a.length;have h2 := addN_len ins (mulN ins a b g n).2 (emitN ins (mulF a b n) (mulN ins a b g n).1 a.length).2 (ins + ((emitN ins (mulF a b n) (mulN ins a b g n).1 a.length).1.length : Int)) ((emitN ins (mulF a b n) (mulN ins a b g n).1 a.length).1 ++ [⟨1, 0, 0⟩]) (mulN ins a b g n).2.length;rw [List.length_append, List.length_singleton] at h2;have e : (n + 1) * (6 * a.length + 1) = n * (6 * a.length + 1) + (6 * a.length + 1) := Nat.succ_mul _ _;exact ⟨by omega, by omega⟩
def bitv (n : Int) (i : Nat) : Int := wrap64 (Go.bits .and .u64 (n / 2 ^ min i 64) 1)
theorem bitv_zero (i : Nat) : bitv 0 i = 0 := by
 unfold bitv;rw [Int.zero_ediv, show Go.bits .and .u64 0 1 = 0 from rfl];simp [wrap64]
def twoN (ins : Int) (op : Int) (a b : List Int) (g : List S75) : List S75 × List Int :=
 if op = 8 ∨ op = 17 then emitN ins (fun i => ⟨3, rd a i, rd b i⟩) g a.length
 else if op = 9 ∨ op = 18 then emitN ins (fun i => ⟨4, rd a i, rd b i⟩) g a.length
 else if op = 10 then emitN ins (fun i => ⟨5, rd a i, rd b i⟩) g a.length
 else if op = 3 then ((addN ins a b (ins + (g.length : Int)) (g ++ [⟨1, 0, 0⟩]) a.length).1, (addN ins a b (ins + (g.length : Int)) (g ++ [⟨1, 0, 0⟩]) a.length).2.1)
 else if op = 4 then
  let p := emitN ins (fun i => ⟨2, rd b i, 0⟩) g b.length
  ((addN ins a p.2 (ins + (p.1.length : Int)) (p.1 ++ [⟨1, 1, 0⟩]) a.length).1, (addN ins a p.2 (ins + (p.1.length : Int)) (p.1 ++ [⟨1, 1, 0⟩]) a.length).2.1)
 else if op = 5 then mulN ins a b g b.length
 else if op = 14 then ((eqN ins a b g a.length).1, [(eqN ins a b g a.length).2])
 else if op = 15 then ((lessN ins a b g a.length).1, [(lessN ins a b g a.length).2])
 else
  let m := a.length - 1
  let d := ins + (g.length : Int)
  let s := lessN ins (a.set m d) (b.set m (d + 1)) (g ++ [⟨2, rd a m, 0⟩] ++ [⟨2, rd b m, 0⟩]) a.length
  (s.1, [s.2])
theorem spec_l4Build_gate.calls (G base : Nat) (ins : Int) (ov : Value) (g g' : List S75) (a1 a2 a3 n : Int) (w : World) (hb : base ≤ w.heap.size) (HBD : Bd 93 G base ins ov w g)
  (hi0 : 0 ≤ ins) (hi1 : ins ≤ 1000000) (hl : g.length ≤ 1000000) (hn : n = ins + (g.length : Int)) (hg' : g' = g ++ [⟨a1, a2, a3⟩]) :
  Calls Tryz.prog 80 #[.pointer (some ⟨G, 0, none⟩), .int .i64 a1, .int .i64 a2, .int .i64 a3] w fun e w' => e = .returned (.int .i64 n) ∧ Bd 93 G base ins ov w' g' ∧ Fr 75 G base w w' := by
 obtain ⟨gv, hG, hR⟩ := HBD;have hGlt := blk_lt hG;obtain ⟨A0, c0, rfl⟩ := Kd.R_slice hR;have hne := Kd.R_ne hR hG (by decide);have hty := Kd.R_typed hR;have hbs := Kd.R_base hR;have hlt := Kd.R_lt hR;have hc0 : w.cell? ⟨G, 0, none⟩ = some (.int .i64 ins) := (blk_cell hG 0).trans rfl;have hc1 : w.cell? ⟨G, 1, none⟩ = some (.slice A0 g.length c0) := (blk_cell hG 1).trans rfl;have hc2 : w.cell? ⟨G, 2, none⟩ = some ov := (blk_cell hG 2).trans rfl;have HR := qa hR;have HG := qa hG;have HNE := qa hne;have HTY := qa hty;have HBS := qa hbs;have HN := qa hn;have HG' := qa hg';clear hR hG hne hty hbs hlt hn hg';have hu1 := Tryz.underlying34;have hu2 := Tryz.underlying75;have hu3 := Tryz.underlying37;have hu4 := Tryz.underlying93;go_enter Tryz.func80, Tryz.ntmps80
 go_wp2_with (first
  | ((with_reducible refine gate_builtin (b := .append) (xs := #[.tmp 14, .tmp 19]) rfl ?_); at_builtin; refine Kd.R_append k75 (w0 := w) base rfl (.tmp 14) (.tmp 19) 34 75 (.agg #[.int .i64 0, .int .i64 0, .int .i64 0]) 24 rfl Tryz.underlying34 info_gate rfl (by decide) (by omega) _ g ⟨a1, a2, a3⟩ [.int .i64 a1, .int .i64 a2, .int .i64 a3] (fun _ => True) (fun _ => False) rfl (by first | (go_simp; done) | (go_simp; rfl)) ?aP (fun _ hk => hk.elim) ?aF ?aO ?aB ?aS ?aL ?_; (case aP => exact k75_mkM _ _ _ ⟨a1, a2, a3⟩); (case aF => exact fun _ _ => trivial); (case aO => (with_reducible repeat (first | apply Kd.R_alloc | apply Kd.R_drewN | apply Kd.R_drew)); exact HR.out); (case aB => repeat (first | (with_reducible first | exact Below.refl _ _ | apply below_alloc | apply pw_below_drewN | apply below_drew1))); (case aS => first | omega | (simp; omega)); (case aL => first | omega | (simp; omega)); intro v3 w3 hv hb3 hg_ ha_; obtain ⟨A3, c3, rfl⟩ := Kd.R_slice hv; have hG3 := (hg_.block G hGlt HNE.out).trans HG.out; have hd0 : w3.cell? ⟨G, 0, none⟩ = some (.int .i64 ins) := (blk_cell hG3 0).trans rfl; have hd1 : w3.cell? ⟨G, 1, none⟩ = some (.slice A0 g.length c0) := (blk_cell hG3 1).trans rfl; have hd2 : w3.cell? ⟨G, 2, none⟩ = some ov := (blk_cell hG3 2).trans rfl; have hd3 : w3.frozen? ⟨G, 1, none⟩ = false := blk_frozen hG3 1; have HV3 := qa hv; have HG3 := qa hG3; have HF3 := qa (Fr.grown_own (tG := 75) (G := G) (base := base) hg_ (fun k e_ => ⟨HBS.out k e_, HTY.out k e_⟩)); clear hv hb3 hg_ ha_ hG3 hc0 hc1 hc2)
  | (go_at_call 35; go_in))
 go_ret
 refine ⟨congrArg (fun z => Ending.returned (.int .i64 z)) (by have := HN.out; omega), ?_, ?_⟩
 ·rw [HG'.out];refine ⟨.slice A3 (g.length + 1) c3, blk_alloc (by simpa using blk_set HG3.out 1 (.slice A3 (g.length + 1) c3)) _, ?_⟩;have h5 := HV3.out;rw [List.length_append, List.length_singleton] at h5;exact Kd.R_alloc (Kd.R_set h5 HG3.out (by decide) 1 _) _
 ·exact (HF3.out.trans (Fr.setG (Fr.refl _ _ _ _) 1 _)).alloc _
theorem spec_l4Build_bits.calls (G base : Nat) (ins : Int) (ov : Value) (g : List S75) (n : Int) (wd : Nat) (w : World) (hb : base ≤ w.heap.size) (HBD : Bd 93 G base ins ov w g) (hi0 : 0 ≤ ins) (hi1 : ins ≤ 1000000) (hl : g.length ≤ 900000) (hal : wd ≤ 10000) (hn0 : 0 ≤ n) (hn1 : n < 18446744073709551616) :
  Calls Tryz.prog 52 #[.pointer (some ⟨G, 0, none⟩), .int .u64 n, .int .i64 wd] w fun e w' => ∃ v : Value, e = .returned v ∧ Bd 93 G base ins ov w' (emitN ins (fun i => ⟨1, bitv n i, 0⟩) g wd).1 ∧ Kd.R (Kd.int .i64) 3 w' w.heap.size (fun k => k ≠ G) v (emitN ins (fun i => ⟨1, bitv n i, 0⟩) g wd).2 ∧ Fr 75 G base w w' := by
 have hGlt : G < w.heap.size := by obtain ⟨gv, hG, _⟩ := HBD; exact blk_lt hG
 have HBD0 := qa HBD;clear HBD;have hu1 := Tryz.underlying35;go_enter Tryz.func52, Tryz.ntmps52
 go_wp2
 have HV0 := qa (Kd.R_nil (Kd.int .i64) 3 w w.heap.size (fun k => k ≠ G));have HBD1 := HBD0;have HF1 := qa (Fr.refl 75 G base w);go_loopg [7, 8] wd (fun gg so si wr => ∃ kk : Nat, kk ≤ wd ∧ wd - kk ≤ gg ∧ si = .int .i64 kk ∧ Aside0 (Bd 93 G base ins ov wr (emitN ins (fun i => ⟨1, bitv n i, 0⟩) g kk).1) ∧ Aside0 (Kd.R (Kd.int .i64) 3 wr w.heap.size (fun k => k ≠ G) so (emitN ins (fun i => ⟨1, bitv n i, 0⟩) g kk).2) ∧ Aside0 (Fr 75 G base w wr))
 case atStart => exact ⟨0, Nat.zero_le _, by omega, rfl, HBD1, HV0, HF1⟩
 case round =>
  clear HBD0 HBD1 HV0 HF1;obtain ⟨kk, hkk, hg, rfl, HBD, HV, HF⟩ := hrel;have hlen := emitN_len ins (fun i => ⟨1, bitv n i, 0⟩) g kk;by_cases hlt : kk < wd
  ·have hltz : (kk : Int) < (wd : Int) := (by omega);have hs : emitN ins (fun i => ⟨1, bitv n i, 0⟩) g (kk + 1) = ((emitN ins (fun i => ⟨1, bitv n i, 0⟩) g kk).1 ++ [⟨1, bitv n kk, 0⟩], (emitN ins (fun i => ⟨1, bitv n i, 0⟩) g kk).2 ++ [(ins + ((emitN ins (fun i => ⟨1, bitv n i, 0⟩) g kk).1.length : Int))]) := rfl;obtain ⟨gs, hgs⟩ : ∃ q, (emitN ins (fun i => ⟨1, bitv n i, 0⟩) g kk).1 = q := ⟨_, rfl⟩;obtain ⟨os, hos⟩ : ∃ q, (emitN ins (fun i => ⟨1, bitv n i, 0⟩) g kk).2 = q := ⟨_, rfl⟩;rw [hgs, hos] at hlen hs;rw [hgs] at HBD;rw [hos] at HV;clear hgs hos;obtain ⟨hl1, hl2⟩ := hlen;have hol : os.length ≤ 10000 := (by omega);have hgl : gs.length ≤ 950000 := (by omega);obtain ⟨d, hd⟩ : ∃ d, ins + (gs.length : Int) = d := ⟨_, rfl⟩;rw [hd] at hs;have hd0 : 0 ≤ d := (by omega);have hd1 : d ≤ 2000000 := (by omega);clear hl1 hl2;obtain ⟨x, hx⟩ : ∃ x, bitv n kk = x := ⟨_, rfl⟩;rw [hx] at hs;have HX := qa hx;clear hx;obtain ⟨g1, hg1⟩ : ∃ q, q = gs ++ [(⟨1, x, 0⟩ : S75)] := ⟨_, rfl⟩;rw [← hg1] at hs;have N0 := qa (show d = ins + (gs.length : Int) by omega);have L0 : gs.length ≤ 1000000 := (by omega);have G1 := qa hg1;have tok1 : True := trivial;have HS := qa hs;clear hs hd hg1;clear hgl;go_wp2_with (first
     | (go_at_call 80; have _t := tok1; refine calls_of_args (args' := #[.pointer (some ⟨G, 0, none⟩), .int .i64 1, .int .i64 x, .int .i64 0]) (by rw [← HX.out]; rfl) ?_; refine (spec_l4Build_gate.calls G base ins ov gs g1 1 x 0 d _ (Nat.le_trans hb HF.out.size) HBD.out hi0 hi1 L0 N0.out G1.out).mono ?_; rintro e w1 ⟨rfl, hbd, hf⟩; have B1 := qa hbd; have F1 := qa (HF.out.trans hf); have V1 := qa (Fr.R hf HV.out (by decide) (fun _ hk => hk)); clear tok1 hbd hf)
     | ((with_reducible refine gate_builtin (b := .append) (xs := #[.tmp 14, .tmp 23]) rfl ?_); at_builtin; refine Kd.R_append (Kd.int .i64) (w0 := w1) w.heap.size rfl (.tmp 14) (.tmp 23) 35 3 (.int .i64 0) 8 rfl Tryz.underlying35 info_int rfl (by decide) (by omega) _ os d [.int .i64 d] (fun k => k ≠ G) (fun _ => False) rfl (by first | (go_simp; done) | (go_simp; rfl)) ?aP (fun _ hk => hk.elim) ?aF ?aO ?aB ?aS ?aL ?_; (case aP => exact rfl); (case aF => intro k hk; have hsz_ := F1.out.size; omega); (case aO => exact V1.out); (case aB => exact Below.refl _ _); (case aS => exact F1.out.size); (case aL => omega); intro v22 w22 hv _ hg_ _; have V22 := qa hv; have B22 := qa (Bd.grown B1.out hg_ (Kd.R_typed V1.out) (by decide) (by decide)); have F22 := qa (Fr.grown_new F1.out hg_ (own_ge V1.out)); clear hv hg_))
   go_roundg (wd - (kk + 1));case measure => omega
   case rel => exact ⟨kk + 1, by omega, by omega, by go_num, by rw [HS.out]; exact B22, by rw [HS.out]; exact V22, F22⟩
  ·have hltz : ¬ (kk : Int) < (wd : Int) := (by omega);obtain rfl : kk = wd := (by omega);go_wp2
   go_ret
   exact ⟨_, rfl, HBD.out, HV.out, HF.out⟩
theorem spec_l4Build_nots.calls (G base : Nat) (ins : Int) (ov : Value) (g : List S75) (A1 : Option Addr) (c1 : Nat) (a : List Int) (w : World) (hb : base ≤ w.heap.size) (HBD : Bd 93 G base ins ov w g) (ha : (∀ W', Fr 75 G base w W' → Kd.C (Kd.int .i64) W' A1 a.length a)) (hi0 : 0 ≤ ins) (hi1 : ins ≤ 1000000) (hl : g.length ≤ 900000) (hal : a.length ≤ 10000) :
  Calls Tryz.prog 53 #[.pointer (some ⟨G, 0, none⟩), .slice A1 a.length c1] w fun e w' => ∃ v : Value, e = .returned v ∧ Bd 93 G base ins ov w' (emitN ins (fun i => ⟨2, rd a i, 0⟩) g a.length).1 ∧ Kd.R (Kd.int .i64) 3 w' w.heap.size (fun k => k ≠ G) v (emitN ins (fun i => ⟨2, rd a i, 0⟩) g a.length).2 ∧ Fr 75 G base w w' := by
 have hGlt : G < w.heap.size := by obtain ⟨gv, hG, _⟩ := HBD; exact blk_lt hG
 have HBD0 := qa HBD;have Hha := qa ha;clear HBD ha;have hu1 := Tryz.underlying35;go_enter Tryz.func53, Tryz.ntmps53
 go_wp2
 have HV0 := qa (Kd.R_nil (Kd.int .i64) 3 w w.heap.size (fun k => k ≠ G));have HBD1 := HBD0;have HF1 := qa (Fr.refl 75 G base w);go_loopg [5, 10] a.length (fun gg so si wr => ∃ kk : Nat, kk ≤ a.length ∧ a.length - kk ≤ gg ∧ si = .int .i64 kk ∧ Aside0 (Bd 93 G base ins ov wr (emitN ins (fun i => ⟨2, rd a i, 0⟩) g kk).1) ∧ Aside0 (Kd.R (Kd.int .i64) 3 wr w.heap.size (fun k => k ≠ G) so (emitN ins (fun i => ⟨2, rd a i, 0⟩) g kk).2) ∧ Aside0 (Fr 75 G base w wr))
 case atStart => exact ⟨0, Nat.zero_le _, by omega, rfl, HBD1, HV0, HF1⟩
 case round =>
  clear HBD0 HBD1 HV0 HF1;obtain ⟨kk, hkk, hg, rfl, HBD, HV, HF⟩ := hrel;have hlen := emitN_len ins (fun i => ⟨2, rd a i, 0⟩) g kk;by_cases hlt : kk < a.length
  ·have hltz : (kk : Int) < (a.length : Int) := (by omega);have hs : emitN ins (fun i => ⟨2, rd a i, 0⟩) g (kk + 1) = ((emitN ins (fun i => ⟨2, rd a i, 0⟩) g kk).1 ++ [⟨2, rd a kk, 0⟩], (emitN ins (fun i => ⟨2, rd a i, 0⟩) g kk).2 ++ [(ins + ((emitN ins (fun i => ⟨2, rd a i, 0⟩) g kk).1.length : Int))]) := rfl;obtain ⟨gs, hgs⟩ : ∃ q, (emitN ins (fun i => ⟨2, rd a i, 0⟩) g kk).1 = q := ⟨_, rfl⟩;obtain ⟨os, hos⟩ : ∃ q, (emitN ins (fun i => ⟨2, rd a i, 0⟩) g kk).2 = q := ⟨_, rfl⟩;rw [hgs, hos] at hlen hs;rw [hgs] at HBD;rw [hos] at HV;clear hgs hos;obtain ⟨hl1, hl2⟩ := hlen;have hol : os.length ≤ 10000 := (by omega);have hgl : gs.length ≤ 950000 := (by omega);obtain ⟨d, hd⟩ : ∃ d, ins + (gs.length : Int) = d := ⟨_, rfl⟩;rw [hd] at hs;have hd0 : 0 ≤ d := (by omega);have hd1 : d ≤ 2000000 := (by omega);clear hl1 hl2;obtain ⟨ad, e, hxa⟩ := Kd.at_int (Hha.out _ HF.out) (kk : Int) (by omega) hltz;cases e;rw [Int.toNat_natCast] at hxa;obtain ⟨x, hx⟩ : ∃ x, rd a kk = x := ⟨_, rfl⟩;rw [hx] at hs hxa;have HX := qa hx;clear hx;obtain ⟨g1, hg1⟩ : ∃ q, q = gs ++ [(⟨2, x, 0⟩ : S75)] := ⟨_, rfl⟩;rw [← hg1] at hs;have N0 := qa (show d = ins + (gs.length : Int) by omega);have L0 : gs.length ≤ 1000000 := (by omega);have G1 := qa hg1;have tok1 : True := trivial;have HS := qa hs;clear hs hd hg1;clear hgl;go_wp2_with (first
     | (go_at_call 80; have _t := tok1; refine (spec_l4Build_gate.calls G base ins ov gs g1 2 x 0 d _ (Nat.le_trans hb HF.out.size) HBD.out hi0 hi1 L0 N0.out G1.out).mono ?_; rintro e w1 ⟨rfl, hbd, hf⟩; have B1 := qa hbd; have F1 := qa (HF.out.trans hf); have V1 := qa (Fr.R hf HV.out (by decide) (fun _ hk => hk)); clear tok1 hbd hf hxa; have hxa := Fr.cellAt F1.out Hha.out hlt HX.out)
     | ((with_reducible refine gate_builtin (b := .append) (xs := #[.tmp 14, .tmp 18]) rfl ?_); at_builtin; refine Kd.R_append (Kd.int .i64) (w0 := w1) w.heap.size rfl (.tmp 14) (.tmp 18) 35 3 (.int .i64 0) 8 rfl Tryz.underlying35 info_int rfl (by decide) (by omega) _ os d [.int .i64 d] (fun k => k ≠ G) (fun _ => False) rfl (by first | (go_simp; done) | (go_simp; rfl)) ?aP (fun _ hk => hk.elim) ?aF ?aO ?aB ?aS ?aL ?_; (case aP => exact rfl); (case aF => intro k hk; have hsz_ := F1.out.size; omega); (case aO => exact V1.out); (case aB => exact Below.refl _ _); (case aS => exact F1.out.size); (case aL => omega); intro v22 w22 hv _ hg_ _; have V22 := qa hv; have B22 := qa (Bd.grown B1.out hg_ (Kd.R_typed V1.out) (by decide) (by decide)); have F22 := qa (Fr.grown_new F1.out hg_ (own_ge V1.out)); clear hv hg_ hxa; have hxa := Fr.cellAt F22.out Hha.out hlt HX.out))
   go_roundg (a.length - (kk + 1));case measure => omega
   case rel => exact ⟨kk + 1, by omega, by omega, by go_num, by rw [HS.out]; exact B22, by rw [HS.out]; exact V22, F22⟩
  ·have hltz : ¬ (kk : Int) < (a.length : Int) := (by omega);obtain rfl : kk = a.length := (by omega);go_wp2
   go_ret
   exact ⟨_, rfl, HBD.out, HV.out, HF.out⟩
def spec_l1Own.f (l0 : List Int) : Option (List Int) := (some (([] : List Int) : List Int)).bind fun y131 => (if y131.length + l0.length < 17592186044416 then (some (y131 ++ l0)) else (none))
theorem spec_l1Own.calls (A0 : Option Addr) (c0 : Nat) (l0 : List Int) (r : List Int) (w : World) (hr0 : Kd.C (Kd.int .i64) w A0 l0.length l0) (hc0 : l0.length ≤ c0) (h : spec_l1Own.f l0 = some r) :
  Calls Tryz.prog 60 #[.slice A0 l0.length c0] w fun e w' => ∃ v0_ : Value, e = .returned (v0_) ∧ Kd.R (Kd.int .i64) 3 w' w.heap.size (fun _ => True) v0_ r ∧ Below w.heap.size w w' := by
 have HR0 := qa hr0;have HC0 := qa hc0;clear hr0 hc0;have HB := qa (Below.refl w.heap.size w);have H := h;unfold spec_l1Own.f at H;clear h;obtain ⟨y131, hy131⟩ : ∃ y_ : List Int, y_ = (([] : List Int)) := ⟨_, rfl⟩;rw [← hy131] at H;try rw [Option.bind_some] at H
 have Ny131 := qa hy131;clear hy131;obtain ⟨c2, H⟩ := qI H;have LMc2 := qa c2;clear c2;obtain ⟨y134, hy134⟩ : ∃ y_ : List Int, y_ = (y131 ++ l0) := ⟨_, rfl⟩;rw [← hy134] at H;try rw [Option.bind_some] at H
 have Ny134 := qa hy134;clear hy134;obtain rfl := Option.some.inj H;go_enter Tryz.func60, Tryz.ntmps60
 go_wp2_with (first | ((with_reducible refine gate_dst (N := 3) rfl ?_); refine Kd.R_lit (Kd.int .i64) _ 3 rfl (N := 3) rfl (xs := ([] : List Int)) (inner := []) (ok := fun _ => True) (okp := fun _ => True) qW ?hp (fun _ hk => hk) trivial (Below.refl _ _) (Nat.le_refl _) (by simp) ?_; (case hp => exact (Reps.none _ _)); intro v132 w3 ho4 hb hg_ hnew_; clear hg_ hnew_; (first | rw [← Ny131.out] at ho4 | (simp only [Int.reduceToNat] at ho4; rw [← Ny131.out] at ho4)); have HO133 := qa (Kd.R_lower ho4 (below_size (qB))); replace HB := qa (below_step (qB) hb); clear hb ho4) | ((with_reducible refine gate_builtin (b := .append) (xs := #[.tmp 3, .tmp 4]) rfl ?_); at_builtin; refine Kd.R_append_rows (Kd.int .i64) (w0 := w) w.heap.size rfl (.tmp 3) (.tmp 4) 35 3 (.int .i64 0) 8 rfl Tryz.underlying35 info3 rfl (by decide) (by omega) v132 y131 l0 _ _ _ (fun _ => True) (fun _ => False) rfl rfl ?aO ?aR (fun _ _ h => h) (fun _ h => h.elim) ?aF ?aB ?aS ?aL ?_; (case aR => exact qC (Kd.C_below HR0.out HB.out)); (case aB => exact (qB)); (case aF => exact (fun _ _ => trivial)); (case aO => exact (qR HO133.out)); (case aS => exact (below_size (qB))); (case aL => have := LMc2.out; omega); intro v135 w5 ho hb hg hat; rw [← Ny134.out] at ho; replace HB := qa (hb); have HO136 := qa (ho); clear HO133; clear ho hb hg hat))
 go_ret
 exact ⟨_, qE, qR HO136.out, qB⟩
end Go.Proofs.YtgdmdaalmoioeaaGreat.X
