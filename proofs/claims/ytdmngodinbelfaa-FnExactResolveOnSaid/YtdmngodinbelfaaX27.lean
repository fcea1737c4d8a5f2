/- Go functions as Lean functions, each with the proof that its call comes to just its answer. Conditions: the arguments are of their kinds. -/
import Derived.Test.YtdmngodinbelfaaX0
import Derived.Test.YtdmngodinbelfaaX1
import Derived.Sort.OwnSortedInts
import Derived.Test.YtdmngodinbelfaaShelf
namespace Go.Proofs.Ytdmngodinbelfaa.X
open Go.RowKit Go.Proofs.YtdmngodinbelfaaW.PrintWords Go.Proofs.YtdmngodinbelfaaW.PrintLast Go.Proofs.YtdmngodinbelfaaW.PrintMore
attribute [local go_sem] max2_int min2_int max_two min_two max_three min_three max_four min_four   -- for this text's walks alone
set_option linter.unusedVariables false
set_option linter.unusedSimpArgs false

-- NOT PRINTED: function 77 (slices_insertionSortCmpFunc_slices_insertionSortCmpFunc_int)

-- NOT PRINTED: function 87 (slices_siftDownCmpFunc_slices_siftDownCmpFunc_int)

-- NOT PRINTED: function 78 (slices_heapSortCmpFunc_slices_heapSortCmpFunc_int)

-- NOT PRINTED: function 85 (bits_Len32)

-- NOT PRINTED: function 86 (bits_Len64)

-- NOT PRINTED: function 71 (bits_Len)

-- NOT PRINTED: function 88 (slices_nextPowerOfTwo)

-- NOT PRINTED: function 89 (slices_xorshift_Next)

-- NOT PRINTED: function 79 (slices_breakPatternsCmpFunc_slices_breakPatternsCmpFunc_int)

-- NOT PRINTED: function 92 (slices_order2CmpFunc_slices_order2CmpFunc_int)

-- NOT PRINTED: function 91 (slices_medianCmpFunc_slices_medianCmpFunc_int)

-- NOT PRINTED: function 90 (slices_medianAdjacentCmpFunc_slices_medianAdjacentCmpFunc_int)

-- NOT PRINTED: function 80 (slices_choosePivotCmpFunc_slices_choosePivotCmpFunc_int)

-- NOT PRINTED: function 81 (slices_reverseRangeCmpFunc_slices_reverseRangeCmpFunc_int)

-- NOT PRINTED: function 82 (slices_partialInsertionSortCmpFunc_slices_partialInsertionSortCmpFunc_int)

-- NOT PRINTED: function 83 (slices_partitionEqualCmpFunc_slices_partitionEqualCmpFunc_int)

-- NOT PRINTED: function 84 (slices_partitionCmpFunc_slices_partitionCmpFunc_int)

-- NOT PRINTED: function 70 (slices_pdqsortCmpFunc_slices_pdqsortCmpFunc_int)

-- NOT PRINTED: function 53 (slices_SortFunc_int)

/-! ### cmp_Or_cmp_Or_int: function 72 -/
def cmp_Or_cmp_Or_int.l0 : Nat → Int → List Int → Int → Int → Option (Int)
 | 0, _, _, _, _ => none
 | k + 1, x3, x6, x7, x8 => if x8 < x7 then (if 0 ≤ x8 then (if x8 < (x6.length : Int) then (if (rd x6 x8) = x3 then (cmp_Or_cmp_Or_int.l0 k x3 x6 x7 (wrap64 (x8 + 1))) else (some (rd x6 x8))) else (none)) else (none)) else (some x3)
def cmp_Or_cmp_Or_int.f (k : Nat) (l0 : List Int) : Option (Int) := cmp_Or_cmp_Or_int.l0 k 0 l0 (l0.length : Int) 0
theorem cmp_Or_cmp_Or_int.mono_l : ∀ k, (∀ y0 y1 y2 y3, LeO (cmp_Or_cmp_Or_int.l0 k y0 y1 y2 y3) (cmp_Or_cmp_Or_int.l0 (k + 1) y0 y1 y2 y3))
 | 0 => fun _ _ _ _ r h => by simp [cmp_Or_cmp_Or_int.l0] at h
 | k + 1 => by
  have ih0 := cmp_Or_cmp_Or_int.mono_l k
  ·intro y0 y1 y2 y3
   unfold cmp_Or_cmp_Or_int.l0
   repeat' first
   | (with_reducible exact ih0 _ _ _ _)
   | (with_reducible first | exact LeO.refl _ | exact LeO.none _ | refine LeO.ite ?_ ?_ | refine LeO.bind ?_ (fun _ => ?_))
   | exact ih0 _ _ _ _
   | exact LeO.none _ | refine LeO.ite ?_ ?_ | refine LeO.bind ?_ (fun _ => ?_)
theorem cmp_Or_cmp_Or_int.mono : ∀ a0 k, LeO (cmp_Or_cmp_Or_int.f k a0) (cmp_Or_cmp_Or_int.f (k + 1) a0) := by
 intro a0 k
 have ih0 := cmp_Or_cmp_Or_int.mono_l k
 unfold cmp_Or_cmp_Or_int.f
 repeat' first
   | (with_reducible exact ih0 _ _ _ _)
   | (with_reducible first | exact LeO.refl _ | exact LeO.none _ | refine LeO.ite ?_ ?_ | refine LeO.bind ?_ (fun _ => ?_))
   | exact ih0 _ _ _ _
   | exact LeO.none _ | refine LeO.ite ?_ ?_ | refine LeO.bind ?_ (fun _ => ?_)
set_option maxHeartbeats 8000000 in
set_option maxRecDepth 100000 in
theorem cmp_Or_cmp_Or_int.calls (k : Nat) (A0 : Option Addr) (c0 : Nat) (l0 : List Int) (r : Int) (w : World) (hr0 : Kd.C (Kd.int .i64) w A0 l0.length l0) (hc0 : l0.length ≤ c0) (h : cmp_Or_cmp_Or_int.f k l0 = some r) :
  Calls Try.prog 72 #[.slice A0 l0.length c0] w fun e w' => e = .returned (.int .i64 r) ∧ Drawn0 w w' := by
 have HR0 := Aside0.mk hr0
 have HC0 := Aside0.mk hc0
 clear hr0 hc0
 have H : (cmp_Or_cmp_Or_int.l0 k 0 l0 (l0.length : Int) 0) = some r := h
 clear h
 have H' := Aside0.mk H
 clear H
 go_enter Try.func72, Try.ntmps72
 go_wp2
 go_loopg [8] k (fun kq v8 w' => ∃ (x8_1 : Int), v8 = .int .i64 x8_1 ∧ Aside0 (cmp_Or_cmp_Or_int.l0 kq 0 l0 (l0.length : Int) x8_1 = some r) ∧ Aside0 (kq ≤ k) ∧ Drawn0 w w')
 case atStart => exact ⟨(0), qS, H', ⟨Nat.le_refl _⟩, by repeat (first | exact Drawn0.refl _ | apply Drawn0.step)⟩
 case round =>
  clear H'
  obtain ⟨x8_1, rfl, HA, HK1, ⟨m1, rfl⟩⟩ := hrel
  cases gk with
  | zero => exact absurd HA.out (by simp [cmp_Or_cmp_Or_int.l0])
  | succ k1 =>
   have H := HA.out
   clear HA
   simp only [cmp_Or_cmp_Or_int.l0] at H
   by_cases c2 : x8_1 < (l0.length : Int)
   ·rw [if_pos c2] at H
    have c2b0 : decide (x8_1 < (l0.length : Int)) = true := decide_eq_true c2
    clear c2
    by_cases c3 : 0 ≤ x8_1
    ·rw [if_pos c3] at H
     have c3b0 : decide (0 ≤ x8_1) = true := decide_eq_true c3
     clear c3
     by_cases c4 : x8_1 < (l0.length : Int)
     ·rw [if_pos c4] at H
      have c4b0 : decide (x8_1 < (l0.length : Int)) = true := decide_eq_true c4
      clear c4
      by_cases c5 : (rd l0 x8_1) = 0
      ·rw [if_pos c5] at H
       have c5b0 : ((rd l0 x8_1) == 0) = true := beq_iff_eq.mpr c5
       have c5b1 : ((rd l0 x8_1) != 0) = false := bne_eq_false_iff_eq.mpr c5
       clear c5
       have H' := Aside0.mk H
       clear H
       have p382 : 0 ≤ (x8_1 : Int) := qD
       have q382 : x8_1 < (l0.length : Int) := qD
       obtain ⟨ad382, e382, hx382_0⟩ := Kd.at_int HR0.out x8_1 p382 q382
       cases e382
       replace p382 := eq_true p382
       replace q382 := eq_true q382
       go_wp2
       go_roundg k1
       case measure => have := HK1.out; omega
       case rel => exact ⟨(wrap64 (x8_1 + 1)), qS, H', ⟨by have := HK1.out; omega⟩, by repeat (first | exact Drawn0.refl _ | apply Drawn0.step)⟩
      ·rw [if_neg c5] at H
       have c5b0 : ((rd l0 x8_1) == 0) = false := beq_eq_false_iff_ne.mpr c5
       have c5b1 : ((rd l0 x8_1) != 0) = true := bne_iff_ne.mpr c5
       obtain rfl := Option.some.inj H
       have p382 : 0 ≤ (x8_1 : Int) := qD
       have q382 : x8_1 < (l0.length : Int) := qD
       obtain ⟨ad382, e382, hx382_0⟩ := Kd.at_int HR0.out x8_1 p382 q382
       cases e382
       replace p382 := eq_true p382
       replace q382 := eq_true q382
       go_wp2
       go_ret
       exact ⟨by first | rfl | (simp; done) | (simp [*]; done), by repeat (first | exact Drawn0.refl _ | apply Drawn0.step)⟩
     ·rw [if_neg c4] at H
      exact absurd H (by simp)
    ·rw [if_neg c3] at H
     exact absurd H (by simp)
   ·rw [if_neg c2] at H
    have c2b0 : decide (x8_1 < (l0.length : Int)) = false := decide_eq_false c2
    clear c2
    obtain rfl := Option.some.inj H
    go_wp2
    go_ret
    exact ⟨by first | rfl | (simp; done) | (simp [*]; done), by repeat (first | exact Drawn0.refl _ | apply Drawn0.step)⟩



-- HAND
/-! ### impl_ResolveOn: function 32 -/
-- IMPORT Derived.Sort.OwnSortedInts
-- IMPORT Derived.Test.YtdmngodinbelfaaShelf
/-- The worlds that a call which only draws and lays blocks may leave. -/
def roGr (W W' : World) : Prop := ∃ q os, W' = Go.Sort.grow (W.drewN q) os
theorem roGr.refl (W : World) : roGr W W := ⟨0, #[], by rw [Go.Sort.grow_empty]; rfl⟩
theorem roGr.drewN {W W' : World} (h : roGr W W') (n : Nat) : roGr W (W'.drewN n) := by
 obtain ⟨q, os, rfl⟩ := h
 exact ⟨q + n, os, by unfold Go.Sort.grow World.drewN; simp [Nat.add_assoc]⟩
theorem roGr.drew {W W' : World} (h : roGr W W') : roGr W W'.drew := h.drewN 1
theorem roGr.alloc {W W' : World} (h : roGr W W') (o : Obj) : roGr W (W'.alloc o) := by
 obtain ⟨q, os, rfl⟩ := h
 exact ⟨q, os.push o, by unfold Go.Sort.grow World.alloc; simp⟩
/-- A literal's name. -/
def litKey (x : Int) : Int := mx x (wrap64 (-x))
def cmpI (x y : Int) : Int := if x < y then -1 else if y < x then 1 else 0
/-- The value of compareLiterals. -/
def litCmp (x y : Int) : Int := if cmpI (litKey x) (litKey y) = 0 then cmpI x y else cmpI (litKey x) (litKey y)
/-- x stands before y. -/
def litLt (x y : Int) : Bool := decide (litKey x < litKey y ∨ (litKey x = litKey y ∧ x < y))
theorem litLt_eq (x y : Int) : Go.Proofs.ltOf litCmp x y = litLt x y := by
 unfold Go.Proofs.ltOf litLt litCmp
 generalize litKey x = a
 generalize litKey y = b
 unfold cmpI
 apply decide_eq_decide.mpr
 by_cases h1 : a < b
 ·rw [if_pos h1, if_neg (by omega)]; omega
 ·rw [if_neg h1]
  by_cases h2 : b < a
  ·rw [if_pos h2, if_neg (by omega)]; omega
  ·rw [if_neg h2, if_pos rfl]
   by_cases h3 : x < y
   ·rw [if_pos h3]; omega
   ·rw [if_neg h3]
    by_cases h4 : y < x
    ·rw [if_pos h4]; omega
    ·rw [if_neg h4]; omega
theorem litSwo : Go.Sort.SWO (Go.Proofs.ltOf litCmp) where
 irrefl x := by rw [litLt_eq]; unfold litLt; simp
 trans x y z h1 h2 := by rw [litLt_eq] at *; unfold litLt at *; simp only [decide_eq_true_eq] at *; omega
 ntrans x y z h1 h2 := by rw [litLt_eq] at *; unfold litLt at *; simp only [decide_eq_false_iff_not] at *; omega
theorem litTot (x y : Int) (h1 : Go.Proofs.ltOf litCmp x y = false) (h2 : Go.Proofs.ltOf litCmp y x = false) : x = y := by
 rw [litLt_eq] at *; unfold litLt at *; simp only [decide_eq_false_iff_not] at *; omega
/-- The order in which the row is sorted. -/
def litLe (x y : Int) : Bool := !litLt y x
theorem litLe_eq : (fun x y : Int => !Go.Proofs.ltOf litCmp y x) = litLe := by
 funext x y
 rw [litLt_eq]
 rfl
theorem litName (x : Int) (w : World) : Calls Try.prog 62 #[.int .i64 x] w fun e w' => e = .returned (.int .i64 (litKey x)) ∧ Drawn0 w w' := by
 obtain ⟨j, hj⟩ : ∃ j_ : Int, litKey x = j_ := ⟨_, rfl⟩
 have hj_ : (if x < (wrap64 (-x)) then (wrap64 (-x)) else x) = j := hj
 go_enter Try.func62, Try.ntmps62
 go_wp2
 go_ret
 exact ⟨by simp only [← hj]; first | rfl | (simp [litKey, mx] <;> rfl) | (have : max x (wrap64 (-x)) = mx x (wrap64 (-x)) := (by unfold mx; omega); simp only [litKey, this]; done) | (have : max x (wrap64 (-x)) = mx x (wrap64 (-x)) := (by unfold mx; omega); simp [litKey, this]), by repeat (first | exact Drawn0.refl _ | apply Drawn0.step)⟩
theorem cmpI_val (x y : Int) : cmp_Compare_cmp_Compare_int.f x y = some (cmpI x y) := by
 unfold cmp_Compare_cmp_Compare_int.f cmp_isNaN_cmp_isNaN_int.f cmpI
 simp only [bne_self_eq_false, Option.bind_some, Bool.false_eq_true, if_false]
 by_cases h1 : x < y
 ·rw [if_pos h1, if_pos h1]
 ·rw [if_neg h1, if_neg h1]
  by_cases h2 : y < x
  ·rw [if_pos h2, if_pos h2]
  ·rw [if_neg h2, if_neg h2]
theorem orI_val (x y : Int) : cmp_Or_cmp_Or_int.f 3 [x, y] = some (if x = 0 then y else x) := by
 unfold cmp_Or_cmp_Or_int.f
 have e1 : wrap64 ((0 : Int) + 1) = 1 := by unfold wrap64; omega
 have e2 : wrap64 ((1 : Int) + 1) = 2 := by unfold wrap64; omega
 have r0 : rd [x, y] 0 = x := rfl
 have r1 : rd [x, y] 1 = y := rfl
 simp only [cmp_Or_cmp_Or_int.l0, List.length_cons, List.length_nil, e1, e2, r0, r1]
 by_cases h : x = 0
 ·by_cases h2 : y = 0 <;> simp [h, h2]
 ·simp [h]
theorem lit2_C (W : World) (p q : Int) : Kd.C (Kd.int .i64) (W.alloc (.cells #[.int .i64 p, .int .i64 q] 3)) (some ⟨W.heap.size, 0, none⟩) [p, q].length [p, q] := by
 have h0 : (W.alloc (.cells #[.int .i64 p, .int .i64 q] 3)).ownsRow W.heap.size 3 1 (.slice (some ⟨W.heap.size, 0, none⟩) [p, q].length 2) [p, q].length ([p, q].map (Value.int .i64)) := ⟨rfl, .inr ⟨_, 2, #[.int .i64 p, .int .i64 q], rfl, Nat.le_refl _, by unfold World.alloc; simp, Nat.le_refl _, by simp [maxLen], rfl, rfl⟩⟩
 exact (Kd.R_reads' (Kd.R_of_own (ok := fun _ => True) (enc := Value.int .i64) (h1 := fun _ => rfl) (xs := [p, q]) h0 (fun _ _ => trivial))).2.2
set_option maxHeartbeats 8000000 in
theorem litCmp_calls (x y : Int) (w : World) : Calls Try.prog 54 #[.int .i64 x, .int .i64 y] w fun e w' => e = .returned (.int .i64 (litCmp x y)) ∧ roGr w w' := by
 obtain ⟨a, ha⟩ : ∃ a, litKey x = a := ⟨_, rfl⟩
 obtain ⟨b, hb⟩ : ∃ b, litKey y = b := ⟨_, rfl⟩
 obtain ⟨p, hp⟩ : ∃ p, cmpI a b = p := ⟨_, rfl⟩
 obtain ⟨q, hq⟩ : ∃ q, cmpI x y = q := ⟨_, rfl⟩
 obtain ⟨r, hr⟩ : ∃ r, (if p = 0 then q else p) = r := ⟨_, rfl⟩
 have e : litCmp x y = r := by unfold litCmp; rw [ha, hb, hp, hq, hr]
 rw [e]
 have N1 : ∀ W, Calls Try.prog 62 #[.int .i64 x] W fun e w' => e = .returned (.int .i64 a) ∧ Drawn0 W w' := fun W => by rw [← ha]; exact litName x W
 have N2 : ∀ W, Calls Try.prog 62 #[.int .i64 y] W fun e w' => e = .returned (.int .i64 b) ∧ Drawn0 W w' := fun W => by rw [← hb]; exact litName y W
 have C1 : Aside0 (cmp_Compare_cmp_Compare_int.f a b = some p) := ⟨by rw [cmpI_val, hp]⟩
 have C2 : Aside0 (cmp_Compare_cmp_Compare_int.f x y = some q) := ⟨by rw [cmpI_val, hq]⟩
 have O1 : Aside0 (cmp_Or_cmp_Or_int.f 3 [p, q] = some r) := ⟨by rw [orI_val, hr]⟩
 clear ha hb hp hq hr e
 have M1 := Aside0.mk N1
 have M2 := Aside0.mk N2
 clear N1 N2
 go_enter Try.func54, Try.ntmps54
 go_wp2_with (first | ((with_reducible refine gate_callee (f := 62) rfl ?_); refine goesL_ (some 6) rfl rfl Try.func62 (by kernel_rfl) rfl #[.int .i64 x] rfl qG ?_; (refine (M1.out _).mono ?_); rintro e w' ⟨rfl, ⟨nd, rfl⟩⟩; refine ⟨_, rfl, ?_⟩) | ((with_reducible refine gate_callee (f := 62) rfl ?_); refine goesL_ (some 8) rfl rfl Try.func62 (by kernel_rfl) rfl #[.int .i64 y] rfl qG ?_; (refine (M2.out _).mono ?_); rintro e w' ⟨rfl, ⟨nd, rfl⟩⟩; refine ⟨_, rfl, ?_⟩) | ((with_reducible refine gate_callee (f := 65) rfl ?_); refine goesL_ (some 9) rfl rfl Try.func65 (by kernel_rfl) rfl #[.int .i64 a, .int .i64 b] rfl qG ?_; (with_reducible refine (cmp_Compare_cmp_Compare_int.calls a b p _ C1.out).mono ?_); rintro e w' ⟨rfl, ⟨nd, rfl⟩⟩; refine ⟨_, rfl, ?_⟩) | ((with_reducible refine gate_callee (f := 65) rfl ?_); refine goesL_ (some 12) rfl rfl Try.func65 (by kernel_rfl) rfl #[.int .i64 x, .int .i64 y] rfl qG ?_; (with_reducible refine (cmp_Compare_cmp_Compare_int.calls x y q _ C2.out).mono ?_); rintro e w' ⟨rfl, ⟨nd, rfl⟩⟩; refine ⟨_, rfl, ?_⟩) | (go_at_call 72; (refine (cmp_Or_cmp_Or_int.calls 3 (some _) 2 [p, q] r _ ?side1 (Nat.le_refl 2) O1.out).mono ?_); (case side1 => repeat (first | exact lit2_C _ p q | (with_reducible refine Kd.C_alloc ?_ _) | (with_reducible refine Kd.C_drewN ?_ _) | (with_reducible refine Kd.C_drew ?_))); rintro e w' ⟨rfl, ⟨nd, rfl⟩⟩))
 go_ret
 exact ⟨rfl, by repeat (first | exact roGr.refl _ | apply roGr.drewN | apply roGr.drew | apply roGr.alloc)⟩
theorem lit_enters : ∀ args w, (callFunc 54 args).run Try.prog w = .ok (.enter 54 args) w := enters_of Try.func54 (by kernel_rfl) rfl
theorem lit_lays (blk off size : Nat) (w : World) : Go.Proofs.CmpLays1 Try.prog 54 #[] (Value.int .i64) litCmp blk off size w := fun _ _ _ _ x y => litCmp_calls x y _
/-- slices.SortFunc by compareLiterals of a row of numbers of the call's own. -/
theorem sortLit_own {base : Nat} {ok : Nat → Prop} {v : Value} {xs : List Int} {w : World} (hR : Kd.R (Kd.int .i64) 3 w base ok v xs) (hl : xs.length < 4611686018427387904) :
  Calls Try.prog 53 #[v, .func (.func 54) #[] #[]] w fun e w' => e = .returned (.tuple #[]) ∧ Kd.R (Kd.int .i64) 3 w' base ok v (xs.mergeSort litLe) ∧ w.grownBy w' v.ownBlock := by
 have hown : w.ownsRow base 3 1 v xs.length (encs (Value.int .i64) xs) := Kd.own_of_R hR
 rcases hown.2 with ⟨rfl, h0⟩ | ⟨g, cap, cur, rfl, hg, hb, hn, hcap, hcs, ht⟩
 ·obtain rfl : xs = [] := List.eq_nil_of_length_eq_zero h0
  refine (Try.slices_SortFunc_none (α := Int) none 0 _ w).mono ?_
  rintro e w' ⟨rfl, rfl⟩
  exact ⟨rfl, by simpa using hR, ⟨rfl, rfl, rfl, Nat.le_refl _, fun _ _ _ => rfl⟩⟩
 ·have hH := holds_of_blockI hb (ss := xs) (by simpa [encs] using ht)
  refine (Try.slices_SortFunc_total (Value.int .i64) (fun _ => rfl) litCmp litSwo 54 #[] g 0 cap xs.toArray w lit_enters (lit_lays _ _ _ _) hH (blk_lt hb) (by simpa using hl) litTot).mono ?_
  rintro e w' ⟨rfl, n, os, rfl⟩
  rw [litLe_eq]
  have hlen : (xs.mergeSort litLe).length = xs.length := List.length_mergeSort _
  have h2 := ownsRow_sortedI (n := n) (os := os) (ss := xs) (ts := xs.mergeSort litLe) hlen hg hb hn hcap hcs
  refine ⟨rfl, ?_, grownBy_sortedI _⟩
  rw [← hlen] at h2 ⊢
  exact Kd.R_of_own h2 hR.1
/-- slices.Compact of a row of numbers of the call's own. -/
theorem compactLit_own {base : Nat} {ok : Nat → Prop} {v : Value} {xs : List Int} {w : World} (hR : Kd.R (Kd.int .i64) 3 w base ok v xs) (hl : xs.length < 4611686018427387904) :
  Calls Try.prog 55 #[v] w fun e w' => ∃ v', e = .returned v' ∧ Kd.R (Kd.int .i64) 3 w' base ok v' (Lib.compact xs) ∧ w.grownBy w' v.ownBlock := by
 have hown : w.ownsRow base 3 1 v xs.length (encs (Value.int .i64) xs) := Kd.own_of_R hR
 rcases hown.2 with ⟨rfl, h0⟩ | ⟨g, cap, cur, rfl, hg, hb, hn, hcap, hcs, ht⟩
 ·obtain rfl : xs = [] := List.eq_nil_of_length_eq_zero h0
  refine (Try.slices_Compact_int_empty none 0 w).mono ?_
  rintro e w' ⟨rfl, rfl⟩
  exact ⟨_, rfl, hR, ⟨rfl, rfl, rfl, Nat.le_refl _, fun _ _ _ => rfl⟩⟩
 ·have hH := holds_of_blockI hb (ss := xs) (by simpa [encs] using ht)
  refine (Try.slices_Compact_int g 0 cap xs w hH (by omega) hn).mono ?_
  rintro e w' ⟨rfl, q, rfl⟩
  have hc := Lib.compact_length_le xs
  obtain ⟨ts, hts⟩ : ∃ ts, Lib.compact xs ++ List.replicate (xs.length - (Lib.compact xs).length) 0 = ts := ⟨_, rfl⟩
  have hlen : ts.length = xs.length := by rw [← hts]; simp; omega
  rw [hts]
  have h2 := ownsRow_sortedI (n := q) (os := #[]) (ss := xs) (ts := ts) hlen hg hb hn hcap hcs
  have h3 := grownBy_sortedI (w := w) (g := g) (n := q) (os := #[]) ts.toArray
  rw [Go.Sort.grow_empty] at h2 h3
  refine ⟨_, rfl, ?_, h3⟩
  have h4 := Kd.R_take (Kd.R_of_own (ok := ok) (h1 := fun _ => rfl) (xs := ts) (enc := Value.int .i64) (by rw [hlen]; exact h2) hR.1) (m := (Lib.compact xs).length) (by omega)
  have h5 : ts.take (Lib.compact xs).length = Lib.compact xs := by rw [← hts, List.take_left' rfl]
  rw [h5] at h4
  exact h4
/-- Are the arguments none that ResolveOn takes? -/
def roBad (l0 l1 : List Int) (a2 : Int) : Option Bool :=
 if a2 < 1 then some true else if a2 > 400 then some true else
 (impl_isClause.f l0 400).bind fun c0 => if c0 = true then
  (impl_isClause.f l1 400).bind fun c1 => if c1 = true then
   (slices_Contains_int.f (l0.length + 5) l0 a2).bind fun d0 => if d0 = true then
    (slices_Contains_int.f (l1.length + 5) l1 (wrap64 (-a2))).bind fun d1 => some (!d1)
   else some true
  else some true
 else some true
/-- A row without one number. -/
def roLess (l : List Int) (a : Int) : List Int := l.filter fun x => !(x == a)
theorem roLess_len (l : List Int) (a : Int) : (roLess l a).length ≤ l.length := List.length_filter_le _ _
theorem roLess_snoc (l : List Int) (a : Int) (kk : Nat) (h : kk < l.length) : roLess (l.take (kk + 1)) a = roLess (l.take kk) a ++ (if l[kk] = a then [] else [l[kk]]) := by
 unfold roLess
 rw [List.take_add_one, List.getElem?_eq_getElem h, Option.toList_some, List.filter_append]
 congr 1
 by_cases hq : l[kk] = a <;> simp [hq]
def roOut (l0 l1 : List Int) (a2 : Int) : List Int := Lib.compact ((roLess l0 a2 ++ roLess l1 (wrap64 (-a2))).mergeSort litLe)
/-- 'ResolveOn'. -/
def impl_ResolveOn.f (l0 l1 : List Int) (a2 : Int) : Option (List Int × Bool) :=
 (roBad l0 l1 a2).bind fun b => if b = true then some ([], false) else if l0.length ≤ 1000000 then if l1.length ≤ 1000000 then
  if (roOut l0 l1 a2).length > 8 then some ([], false) else some (roOut l0 l1 a2, true)
 else none else none
set_option maxHeartbeats 8000000 in
set_option maxRecDepth 100000 in
theorem impl_ResolveOn.calls (A0 : Option Addr) (c0 : Nat) (l0 : List Int) (A1 : Option Addr) (c1 : Nat) (l1 : List Int) (a2 : Int) (r1 : List Int) (r2 : Bool) (w : World) (hr0 : Kd.C (Kd.int .i64) w A0 l0.length l0) (hc0 : l0.length ≤ c0) (hr1 : Kd.C (Kd.int .i64) w A1 l1.length l1) (hc1 : l1.length ≤ c1) (h : impl_ResolveOn.f l0 l1 a2 = some (r1, r2)) :
  Calls Try.prog 32 #[.slice A0 l0.length c0, .slice A1 l1.length c1, .int .i64 a2] w fun e w' => ∃ v0_ : Value, e = .returned (.tuple #[v0_, .bool r2]) ∧ Kd.R (Kd.int .i64) 3 w' w.heap.size (fun _ => True) v0_ r1 ∧ Below w.heap.size w w' := by
 have HR0 := Aside0.mk hr0
 have HC0 := Aside0.mk hc0
 have HR1 := Aside0.mk hr1
 have HC1 := Aside0.mk hc1
 clear hr0 hc0 hr1 hc1
 have HB := Aside0.mk (Below.refl w.heap.size w)
 unfold impl_ResolveOn.f at h
 obtain ⟨bad, hbad, h⟩ := Option.bind_eq_some_iff.mp h
 have HBAD := Aside0.mk hbad
 have HRES := Aside0.mk h
 clear hbad h
 go_enter Try.func32, Try.ntmps32
 go_upto_region 1 with (fail)
 go_cut [41] (fun v41 wc => v41 = .bool bad ∧ Aside0 (Below w.heap.size w wc))
 case first =>
  have H := HBAD.out
  clear HBAD HRES
  unfold roBad at H
  by_cases c1 : a2 < 1
  ·rw [if_pos c1] at H
   obtain rfl := Option.some.inj H
   have d1 : decide (a2 < 1) = true := decide_eq_true c1
   clear c1 H
   go_wp2
   go_meet
   case rel => exact ⟨rfl, ⟨qB⟩⟩
  ·rw [if_neg c1] at H
   have d1 : decide (a2 < 1) = false := decide_eq_false c1
   clear c1
   by_cases c2 : a2 > 400
   ·rw [if_pos c2] at H
    obtain rfl := Option.some.inj H
    have d2 : decide (a2 > 400) = true := decide_eq_true c2
    clear c2 H
    go_wp2
    go_meet
    case rel => exact ⟨rfl, ⟨qB⟩⟩
   ·rw [if_neg c2] at H
    have d2 : decide (a2 > 400) = false := decide_eq_false c2
    clear c2
    obtain ⟨g0, e0, H⟩ := Option.bind_eq_some_iff.mp H
    have E0 := Aside0.mk e0
    clear e0
    by_cases q0 : g0 = true
    case neg =>
     rw [if_neg q0] at H
     replace q0 := Bool.eq_false_iff.mpr q0
     subst q0
     obtain rfl := Option.some.inj H
     clear H
     go_wp2_with (first | (go_at_call 39; (with_reducible refine (impl_isClause.calls _ _ l0 400 false _ ?side1 ?side2 E0.out).mono ?_); (case side1 => repeat (first | exact (Kd.C_below HR0.out (qB)) | exact qC (Kd.C_below HR0.out HB.out) | (with_reducible refine Kd.C_alloc ?_ _) | (with_reducible refine Kd.C_drewN ?_ _) | (with_reducible refine Kd.C_drew ?_))); (case side2 => exact HC0.out); rintro e w7 ⟨rfl, hb⟩; have n0_ := Aside0.mk (below_step (qB) hb); clear HB; have HB := n0_; clear n0_; (try clear hb)))
     go_meet
     case rel => exact ⟨rfl, ⟨qB⟩⟩
    subst q0
    rw [if_pos rfl] at H
    obtain ⟨g1, e1, H⟩ := Option.bind_eq_some_iff.mp H
    have E1 := Aside0.mk e1
    clear e1
    by_cases q1 : g1 = true
    case neg =>
     rw [if_neg q1] at H
     replace q1 := Bool.eq_false_iff.mpr q1
     subst q1
     obtain rfl := Option.some.inj H
     clear H
     go_wp2_with (first | (go_at_call 39; (with_reducible refine (impl_isClause.calls _ _ l0 400 true _ ?side1 ?side2 E0.out).mono ?_); (case side1 => repeat (first | exact (Kd.C_below HR0.out (qB)) | exact qC (Kd.C_below HR0.out HB.out) | (with_reducible refine Kd.C_alloc ?_ _) | (with_reducible refine Kd.C_drewN ?_ _) | (with_reducible refine Kd.C_drew ?_))); (case side2 => exact HC0.out); rintro e w7 ⟨rfl, hb⟩; have n0_ := Aside0.mk (below_step (qB) hb); clear HB; have HB := n0_; clear n0_; (try clear hb)) | (go_at_call 39; (with_reducible refine (impl_isClause.calls _ _ l1 400 false _ ?side1 ?side2 E1.out).mono ?_); (case side1 => repeat (first | exact (Kd.C_below HR1.out (qB)) | exact qC (Kd.C_below HR1.out HB.out) | (with_reducible refine Kd.C_alloc ?_ _) | (with_reducible refine Kd.C_drewN ?_ _) | (with_reducible refine Kd.C_drew ?_))); (case side2 => exact HC1.out); rintro e w8 ⟨rfl, hb⟩; have n0_ := Aside0.mk (below_step (qB) hb); clear HB; have HB := n0_; clear n0_; (try clear hb)))
     go_meet
     case rel => exact ⟨rfl, ⟨qB⟩⟩
    subst q1
    rw [if_pos rfl] at H
    obtain ⟨g2, e2, H⟩ := Option.bind_eq_some_iff.mp H
    have D0 := Aside0.mk e2
    clear e2
    by_cases q2 : g2 = true
    case neg =>
     rw [if_neg q2] at H
     replace q2 := Bool.eq_false_iff.mpr q2
     subst q2
     obtain rfl := Option.some.inj H
     clear H
     go_wp2_with (first | (go_at_call 39; (with_reducible refine (impl_isClause.calls _ _ l0 400 true _ ?side1 ?side2 E0.out).mono ?_); (case side1 => repeat (first | exact (Kd.C_below HR0.out (qB)) | exact qC (Kd.C_below HR0.out HB.out) | (with_reducible refine Kd.C_alloc ?_ _) | (with_reducible refine Kd.C_drewN ?_ _) | (with_reducible refine Kd.C_drew ?_))); (case side2 => exact HC0.out); rintro e w7 ⟨rfl, hb⟩; have n0_ := Aside0.mk (below_step (qB) hb); clear HB; have HB := n0_; clear n0_; (try clear hb)) | (go_at_call 39; (with_reducible refine (impl_isClause.calls _ _ l1 400 true _ ?side1 ?side2 E1.out).mono ?_); (case side1 => repeat (first | exact (Kd.C_below HR1.out (qB)) | exact qC (Kd.C_below HR1.out HB.out) | (with_reducible refine Kd.C_alloc ?_ _) | (with_reducible refine Kd.C_drewN ?_ _) | (with_reducible refine Kd.C_drew ?_))); (case side2 => exact HC1.out); rintro e w8 ⟨rfl, hb⟩; have n0_ := Aside0.mk (below_step (qB) hb); clear HB; have HB := n0_; clear n0_; (try clear hb)) | (go_at_call 46; (with_reducible refine (slices_Contains_int.calls (l0.length + 5) _ _ l0 a2 false _ ?side1 ?side2 D0.out).mono ?_); (case side1 => repeat (first | exact (Kd.C_below HR0.out (qB)) | exact qC (Kd.C_below HR0.out HB.out) | (with_reducible refine Kd.C_alloc ?_ _) | (with_reducible refine Kd.C_drewN ?_ _) | (with_reducible refine Kd.C_drew ?_))); (case side2 => exact HC0.out); rintro e w' ⟨rfl, ⟨nd, rfl⟩⟩))
     go_meet
     case rel => exact ⟨rfl, ⟨qB⟩⟩
    subst q2
    rw [if_pos rfl] at H
    obtain ⟨g3, e3, H⟩ := Option.bind_eq_some_iff.mp H
    have D1 := Aside0.mk e3
    clear e3
    obtain rfl := Option.some.inj H
    clear H
    go_wp2_with (first | (go_at_call 39; (with_reducible refine (impl_isClause.calls _ _ l0 400 true _ ?side1 ?side2 E0.out).mono ?_); (case side1 => repeat (first | exact (Kd.C_below HR0.out (qB)) | exact qC (Kd.C_below HR0.out HB.out) | (with_reducible refine Kd.C_alloc ?_ _) | (with_reducible refine Kd.C_drewN ?_ _) | (with_reducible refine Kd.C_drew ?_))); (case side2 => exact HC0.out); rintro e w7 ⟨rfl, hb⟩; have n0_ := Aside0.mk (below_step (qB) hb); clear HB; have HB := n0_; clear n0_; (try clear hb)) | (go_at_call 39; (with_reducible refine (impl_isClause.calls _ _ l1 400 true _ ?side1 ?side2 E1.out).mono ?_); (case side1 => repeat (first | exact (Kd.C_below HR1.out (qB)) | exact qC (Kd.C_below HR1.out HB.out) | (with_reducible refine Kd.C_alloc ?_ _) | (with_reducible refine Kd.C_drewN ?_ _) | (with_reducible refine Kd.C_drew ?_))); (case side2 => exact HC1.out); rintro e w8 ⟨rfl, hb⟩; have n0_ := Aside0.mk (below_step (qB) hb); clear HB; have HB := n0_; clear n0_; (try clear hb)) | (go_at_call 46; (with_reducible refine (slices_Contains_int.calls (l0.length + 5) _ _ l0 a2 true _ ?side1 ?side2 D0.out).mono ?_); (case side1 => repeat (first | exact (Kd.C_below HR0.out (qB)) | exact qC (Kd.C_below HR0.out HB.out) | (with_reducible refine Kd.C_alloc ?_ _) | (with_reducible refine Kd.C_drewN ?_ _) | (with_reducible refine Kd.C_drew ?_))); (case side2 => exact HC0.out); rintro e w' ⟨rfl, ⟨nd, rfl⟩⟩) | (go_at_call 46; (with_reducible refine (slices_Contains_int.calls (l1.length + 5) _ _ l1 (wrap64 (-a2)) g3 _ ?side1 ?side2 D1.out).mono ?_); (case side1 => repeat (first | exact (Kd.C_below HR1.out (qB)) | exact qC (Kd.C_below HR1.out HB.out) | (with_reducible refine Kd.C_alloc ?_ _) | (with_reducible refine Kd.C_drewN ?_ _) | (with_reducible refine Kd.C_drew ?_))); (case side2 => exact HC1.out); rintro e w' ⟨rfl, ⟨nd, rfl⟩⟩))
    go_meet
    case rel => exact ⟨rfl, ⟨qB⟩⟩
 case rest =>
  clear HBAD
  (try clear HB)
  obtain ⟨rfl, HB⟩ := hcut
  have H := HRES.out
  clear HRES
  by_cases hbb : bad = true
  ·subst hbb
   rw [if_pos rfl] at H
   simp only [Option.some.injEq, Prod.mk.injEq] at H
   obtain ⟨rfl, rfl⟩ := H
   go_wp2
   go_ret2
   exact ⟨_, rfl, Kd.R_nil _ _ _ _ _, qB⟩
  ·rw [if_neg hbb] at H
   replace hbb := Bool.eq_false_iff.mpr hbb
   subst hbb
   by_cases m0 : l0.length ≤ 1000000
   case neg => rw [if_neg m0] at H; cases H
   rw [if_pos m0] at H
   by_cases m1 : l1.length ≤ 1000000
   case neg => rw [if_neg m1] at H; cases H
   rw [if_pos m1] at H
   have HRES := Aside0.mk H
   have M0 := Aside0.mk m0
   have M1 := Aside0.mk m1
   clear H m0 m1
   go_wp2
   go_loopg [8, 45] l0.length (fun gg v8 v45 wr => ∃ kk : Nat, kk ≤ l0.length ∧ l0.length - kk ≤ gg ∧ v45 = .int .i64 kk ∧ Aside0 (Kd.R (Kd.int .i64) 3 wr w.heap.size (fun _ => True) v8 (roLess (l0.take kk) a2)) ∧ Aside0 (Below w.heap.size w wr))
   case atStart =>
    have h0 : roLess (l0.take 0) a2 = [] := rfl
    exact ⟨0, Nat.zero_le _, by omega, rfl, ⟨by rw [h0]; exact Kd.R_of_own (enc := Value.int .i64) (xs := []) ⟨rfl, .inr ⟨_, 0, #[], rfl, below_size (qB), by unfold World.alloc; simp, Nat.le_refl _, by simp [maxLen], rfl, rfl⟩⟩ (fun _ _ => trivial)⟩, ⟨qB⟩⟩
   case round =>
    clear HB
    obtain ⟨kk, hkk, hg, rfl, HV, HB⟩ := hrel
    by_cases hlt : kk < l0.length
    ·have hltz : (kk : Int) < (l0.length : Int) := by omega
     obtain ⟨ad, e, hcell⟩ := Kd.at_int HR0.out (kk : Int) (by omega) hltz
     cases e
     replace hcell := (HB.out.cell (World.block_lt_of_cell? w _ hcell)).trans hcell
     have hget : rd l0 (kk : Int) = l0[kk] := by unfold rd; rw [Int.toNat_natCast, List.getD_eq_getElem?_getD, List.getElem?_eq_getElem hlt]; rfl
     have hs := roLess_snoc l0 a2 kk hlt
     rw [← hget] at hs
     obtain ⟨y, hy⟩ : ∃ y, rd l0 (kk : Int) = y := ⟨_, rfl⟩
     rw [hy] at hcell hs
     clear hy hget
     rw [Int.toNat_natCast] at hcell
     have hvl := roLess_len (l0.take kk) a2
     rw [List.length_take] at hvl
     have hm0 := M0.out
     have hm1 := M1.out
     have hlen : (roLess (l0.take kk) a2).length ≤ 2000000 := by omega
     have HLEN := Aside0.mk hlen
     clear hlen hvl hm0 hm1
     by_cases hq : y = a2
     ·rw [if_pos hq, List.append_nil] at hs
      have HS := Aside0.mk hs
      have hq0 : (y == a2) = true := beq_iff_eq.mpr hq
      have hq1 : (y != a2) = false := by simp [hq]
      clear hs hq
      go_wp2
      go_roundg (l0.length - (kk + 1))
      case measure => omega
      case rel => exact ⟨kk + 1, by omega, by omega, by (have hm := M0.out); (first | go_num | (rw [show wrap64 ((kk : Int) + 1) = ((kk + 1 : Nat) : Int) by unfold wrap64; omega]) | (congr 1; unfold wrap64; omega)), ⟨by rw [HS.out]; (with_reducible repeat (first | apply Kd.R_alloc | apply Kd.R_drewN | apply Kd.R_drew)); exact HV.out⟩, ⟨qB⟩⟩
     ·rw [if_neg hq] at hs
      have HS := Aside0.mk hs
      have hq0 : (y == a2) = false := beq_eq_false_iff_ne.mpr hq
      have hq1 : (y != a2) = true := by simp [hq]
      clear hs hq
      obtain ⟨A2, c2, e2⟩ := Kd.R_slice HV.out
      subst e2
      go_wp2_with ((with_reducible refine gate_builtin (b := .append) (xs := #[.tmp 52, .tmp 54]) rfl ?_); at_builtin; refine Kd.R_append (Kd.int .i64) (w0 := w) w.heap.size rfl (.tmp 52) (.tmp 54) 39 3 (.int .i64 0) 8 rfl Try.underlying39 info3 rfl (by decide) (by omega) _ (roLess (l0.take kk) a2) y [.int .i64 y] (fun _ => True) (fun _ => False) rfl (by first | (go_simp; done) | (go_simp; rfl)) ?aP (fun _ hk => hk.elim) ?aF ?aO ?aB ?aS ?aL ?_; (case aP => exact rfl); (case aF => exact fun _ _ => trivial); (case aO => (with_reducible repeat (first | apply Kd.R_alloc | apply Kd.R_drewN | apply Kd.R_drew)); exact HV.out); (case aB => repeat (first | (with_reducible first | exact HB.out | apply below_alloc | apply pw_below_drewN | apply below_drew1) | exact HB.out)); (case aS => exact below_size (qB)); (case aL => have := HLEN.out; omega); intro v3 w3 hv hb hg_ ha_; clear hg_ ha_; have HV3 := Aside0.mk hv; have HB3 := Aside0.mk hb; clear hv hb)
      go_roundg (l0.length - (kk + 1))
      case measure => omega
      case rel => exact ⟨kk + 1, by omega, by omega, by (have hm := M0.out); (first | go_num | (rw [show wrap64 ((kk : Int) + 1) = ((kk + 1 : Nat) : Int) by unfold wrap64; omega]) | (congr 1; unfold wrap64; omega)), ⟨by rw [HS.out]; exact HV3.out⟩, HB3⟩
    ·have hltz : ¬ (kk : Int) < (l0.length : Int) := by omega
     obtain rfl : kk = l0.length := by omega
     rw [List.take_length] at HV
     have HV0 := HV
     clear HV
     go_wp2
     go_loopg [8, 59] l1.length (fun gg v8 v59 wr => ∃ kk : Nat, kk ≤ l1.length ∧ l1.length - kk ≤ gg ∧ v59 = .int .i64 kk ∧ Aside0 (Kd.R (Kd.int .i64) 3 wr w.heap.size (fun _ => True) v8 (roLess l0 a2 ++ roLess (l1.take kk) (wrap64 (-a2)))) ∧ Aside0 (Below w.heap.size w wr))
     case atStart =>
      have h0 : roLess l0 a2 ++ roLess (l1.take 0) (wrap64 (-a2)) = roLess l0 a2 := by simp [roLess]
      exact ⟨0, Nat.zero_le _, by omega, rfl, ⟨by rw [h0]; (with_reducible repeat (first | apply Kd.R_alloc | apply Kd.R_drewN | apply Kd.R_drew)); exact HV0.out⟩, ⟨qB⟩⟩
     case round =>
      clear HB HV0
      obtain ⟨kk, hkk, hg, rfl, HV, HB⟩ := hrel
      by_cases hlt : kk < l1.length
      ·have hltz : (kk : Int) < (l1.length : Int) := by omega
       obtain ⟨ad, e, hcell⟩ := Kd.at_int HR1.out (kk : Int) (by omega) hltz
       cases e
       replace hcell := (HB.out.cell (World.block_lt_of_cell? w _ hcell)).trans hcell
       have hget : rd l1 (kk : Int) = l1[kk] := by unfold rd; rw [Int.toNat_natCast, List.getD_eq_getElem?_getD, List.getElem?_eq_getElem hlt]; rfl
       have hs := roLess_snoc l1 (wrap64 (-a2)) kk hlt
       rw [← hget] at hs
       obtain ⟨y, hy⟩ : ∃ y, rd l1 (kk : Int) = y := ⟨_, rfl⟩
       rw [hy] at hcell hs
       clear hy hget
       rw [Int.toNat_natCast] at hcell
       have hvl := roLess_len (l1.take kk) (wrap64 (-a2))
       rw [List.length_take] at hvl
       have hvl0 := roLess_len l0 a2
       have hm0 := M0.out
       have hm1 := M1.out
       have hlen : (roLess l0 a2 ++ roLess (l1.take kk) (wrap64 (-a2))).length ≤ 2000000 := by rw [List.length_append]; omega
       have HLEN := Aside0.mk hlen
       clear hlen hvl hvl0 hm0 hm1
       by_cases hq : y = (wrap64 (-a2))
       ·rw [if_pos hq, List.append_nil] at hs
        have HS := Aside0.mk hs
        have hq0 : (y == (wrap64 (-a2))) = true := beq_iff_eq.mpr hq
        have hq1 : (y != (wrap64 (-a2))) = false := by simp [hq]
        clear hs hq
        go_wp2
        go_roundg (l1.length - (kk + 1))
        case measure => omega
        case rel => exact ⟨kk + 1, by omega, by omega, by (have hm := M1.out); (first | go_num | (rw [show wrap64 ((kk : Int) + 1) = ((kk + 1 : Nat) : Int) by unfold wrap64; omega]) | (congr 1; unfold wrap64; omega)), ⟨by rw [HS.out]; (with_reducible repeat (first | apply Kd.R_alloc | apply Kd.R_drewN | apply Kd.R_drew)); exact HV.out⟩, ⟨qB⟩⟩
       ·rw [if_neg hq] at hs
        have HS := Aside0.mk hs
        have hq0 : (y == (wrap64 (-a2))) = false := beq_eq_false_iff_ne.mpr hq
        have hq1 : (y != (wrap64 (-a2))) = true := by simp [hq]
        clear hs hq
        obtain ⟨A2, c2, e2⟩ := Kd.R_slice HV.out
        subst e2
        go_wp2_with ((with_reducible refine gate_builtin (b := .append) (xs := #[.tmp 67, .tmp 69]) rfl ?_); at_builtin; refine Kd.R_append (Kd.int .i64) (w0 := w) w.heap.size rfl (.tmp 67) (.tmp 69) 39 3 (.int .i64 0) 8 rfl Try.underlying39 info3 rfl (by decide) (by omega) _ (roLess l0 a2 ++ roLess (l1.take kk) (wrap64 (-a2))) y [.int .i64 y] (fun _ => True) (fun _ => False) rfl (by first | (go_simp; done) | (go_simp; rfl)) ?aP (fun _ hk => hk.elim) ?aF ?aO ?aB ?aS ?aL ?_; (case aP => exact rfl); (case aF => exact fun _ _ => trivial); (case aO => (with_reducible repeat (first | apply Kd.R_alloc | apply Kd.R_drewN | apply Kd.R_drew)); exact HV.out); (case aB => repeat (first | (with_reducible first | exact HB.out | apply below_alloc | apply pw_below_drewN | apply below_drew1) | exact HB.out)); (case aS => exact below_size (qB)); (case aL => have := HLEN.out; omega); intro v3 w3 hv hb hg_ ha_; clear hg_ ha_; have HV3 := Aside0.mk hv; have HB3 := Aside0.mk hb; clear hv hb)
        go_roundg (l1.length - (kk + 1))
        case measure => omega
        case rel => exact ⟨kk + 1, by omega, by omega, by (have hm := M1.out); (first | go_num | (rw [show wrap64 ((kk : Int) + 1) = ((kk + 1 : Nat) : Int) by unfold wrap64; omega]) | (congr 1; unfold wrap64; omega)), ⟨by rw [HS.out, ← List.append_assoc]; exact HV3.out⟩, HB3⟩
      ·have hltz : ¬ (kk : Int) < (l1.length : Int) := by omega
       obtain rfl : kk = l1.length := by omega
       rw [List.take_length] at HV
       have HRES2 := HRES.out
       clear HRES
       have hl0 := roLess_len l0 a2
       have hl1 := roLess_len l1 (wrap64 (-a2))
       have hm0 := M0.out
       have hm1 := M1.out
       have hlr : (roLess l0 a2 ++ roLess l1 (wrap64 (-a2))).length ≤ 2000000 := by rw [List.length_append]; omega
       clear hl0 hl1 hm0 hm1
       have hS := sortLit_own HV.out (by omega)
       have hls : ((roLess l0 a2 ++ roLess l1 (wrap64 (-a2))).mergeSort litLe).length ≤ 2000000 := by rw [List.length_mergeSort]; exact hlr
       have hbase : w.heap.size ≤ wr.heap.size := below_size HB.out
       have hb0 := Kd.R_base HV.out
       unfold roOut at HRES2
       obtain ⟨ms, hms⟩ : ∃ ms, (roLess l0 a2 ++ roLess l1 (wrap64 (-a2))).mergeSort litLe = ms := ⟨_, rfl⟩
       rw [hms] at HRES2 hS hls
       clear hms
       have hC : ∀ W v, Kd.R (Kd.int .i64) 3 W w.heap.size (fun _ => True) v ms → Calls Try.prog 55 #[v] W fun e w' => ∃ v', e = .returned v' ∧ Kd.R (Kd.int .i64) 3 w' w.heap.size (fun _ => True) v' (Lib.compact ms) ∧ W.grownBy w' v.ownBlock := fun W v h => compactLit_own h (by omega)
       obtain ⟨out, hout⟩ : ∃ out, Lib.compact ms = out := ⟨_, rfl⟩
       rw [hout] at HRES2 hC
       clear hout
       have HC := Aside0.mk hC
       have HS := Aside0.mk hS
       have HBASE := Aside0.mk hbase
       have HB0 := Aside0.mk hb0
       clear hC hS hls hlr hbase hb0
       by_cases ho : out.length > 8
       ·rw [if_pos ho] at HRES2
        simp only [Option.some.injEq, Prod.mk.injEq] at HRES2
        obtain ⟨rfl, rfl⟩ := HRES2
        have ho1 : decide ((out.length : Int) > 8) = true := decide_eq_true (by omega)
        clear ho
        go_wp2_with (first | (go_at_call 53; refine HS.out.mono ?_; rintro e w1 ⟨rfl, hv, hgr⟩; have HV1 := Aside0.mk hv; have HB1 := Aside0.mk (HB.out.grown hgr HBASE.out HB0.out); clear hv hgr HS) | (go_at_call 55; refine (HC.out _ _ HV1.out).mono ?_; rintro e w2 ⟨v2, rfl, hv, hgr⟩; have HV2 := Aside0.mk hv; have HB2 := Aside0.mk (HB1.out.grown hgr (below_size HB1.out) (Kd.R_base HV1.out)); clear hv hgr HC; obtain ⟨A2, c2, e2⟩ := Kd.R_slice HV2.out; subst e2))
        go_ret2
        exact ⟨_, rfl, Kd.R_nil _ _ _ _ _, by repeat (first | (with_reducible first | exact HB2.out | apply below_alloc | apply pw_below_drewN | apply below_drew1) | exact HB2.out)⟩
       ·rw [if_neg ho] at HRES2
        simp only [Option.some.injEq, Prod.mk.injEq] at HRES2
        obtain ⟨rfl, rfl⟩ := HRES2
        have ho1 : decide ((out.length : Int) > 8) = false := decide_eq_false (by omega)
        clear ho
        go_wp2_with (first | (go_at_call 53; refine HS.out.mono ?_; rintro e w1 ⟨rfl, hv, hgr⟩; have HV1 := Aside0.mk hv; have HB1 := Aside0.mk (HB.out.grown hgr HBASE.out HB0.out); clear hv hgr HS) | (go_at_call 55; refine (HC.out _ _ HV1.out).mono ?_; rintro e w2 ⟨v2, rfl, hv, hgr⟩; have HV2 := Aside0.mk hv; have HB2 := Aside0.mk (HB1.out.grown hgr (below_size HB1.out) (Kd.R_base HV1.out)); clear hv hgr HC; obtain ⟨A2, c2, e2⟩ := Kd.R_slice HV2.out; subst e2))
        go_ret2
        exact ⟨_, rfl, qR HV2.out, by repeat (first | (with_reducible first | exact HB2.out | apply below_alloc | apply pw_below_drewN | apply below_drew1) | exact HB2.out)⟩

end Go.Proofs.Ytdmngodinbelfaa.X
