/- Each Go function as a Lean function, with the proof that the call comes to just its answer; or a law's row out of its pure statement. Conditions: the arguments are of their kinds. Written by this session's program wip/xp/xp.sh. -/
import Derived.Test.YtdmngodinbelfaaX0
import Derived.Test.YtdmngodinbelfaaX28
import Derived.Test.YtdmngodinbelfaaX1
import Derived.Test.YtdmngodinbelfaaX19
import Derived.StillTailTactics
import Derived.Deep.QuietTactic
import Derived.BigQuiet
namespace Go.Proofs.Ytdmngodinbelfaa.X
open Go.RowKit Go.Proofs.YtdmngodinbelfaaW.PrintWords Go.Proofs.YtdmngodinbelfaaW.PrintLast Go.Proofs.YtdmngodinbelfaaW.PrintMore
attribute [local go_sem] max2_int min2_int max_two min_two max_three min_three max_four min_four   -- for this text's walks alone
set_option linter.unusedVariables false
set_option linter.unusedSimpArgs false

-- HAND
/-! ### laws_markCnf: function 24 -/
/-- A row of whole numbers that may be marked. -/
def MInts (w : World) (P : Nat → Prop) (v : Value) (n : Nat) : Prop := MRow w 3 (n * 1) P (fun _ => isInt .i64) v n
theorem MInts.of_R {base : Nat} {w : World} {P : Nat → Prop} {v : Value} {l : List Int} (h : Kd.R (Kd.int .i64) 3 w base P v l) : MInts w P v l.length :=
  MRow.of_R 0 h (fun _ => isInt .i64) (fun i hi c hc hM q x hx => by
    obtain rfl := hM
    rcases q with _ | q
    · injection hx with hx
      subst hx
      exact ⟨_, rfl⟩
    · cases hx)
set_option maxHeartbeats 8000000 in
set_option maxRecDepth 100000 in
theorem markInts_any (P : Nat → Prop) (v : Value) (n : Nat) (a : Int) (w : World) (h : MInts w P v n) (ha : 0 ≤ a) (hn : a + (n : Int) < 4611686018427387904) :
    Calls Try.prog 25 #[v, .int .i64 a] w fun e w' => e = .returned (.int .i64 (a + (n : Int))) ∧ MK w w' P := by
  rcases h with ⟨h0, A, c, hv⟩ | ⟨g, c, cs, hv, hb, hp, hq⟩
  · subst h0
    subst hv
    have e0 : a + ((0 : Nat) : Int) = a := by omega
    rw [e0]
    clear hn e0
    go_enter Try.func25, Try.ntmps25
    go_wp2
    refine wp_loop_rounds 1 ?_
    rw [rounds_succ]
    go_wp2
    go_ret
    exact ⟨rfl, by repeat (first | exact MK.refl _ _ | apply MK.drewN | apply MK.drew)⟩
  · subst hv
    have HB0 := Aside0.mk hb
    have HP := Aside0.mk hp
    have HQ := Aside0.mk hq
    have HN := Aside0.mk hn
    have HA := Aside0.mk ha
    clear hb hp hq hn ha
    go_enter Try.func25, Try.ntmps25
    go_wp2
    go_loopg [1, 5] n (fun gg v1 v5 wr => ∃ i : Nat, i ≤ n ∧ n - i ≤ gg ∧ v1 = .int .i64 (a + (i : Int)) ∧ v5 = .int .i64 i ∧ Aside0 (MK w wr P))
    case atStart => exact ⟨0, Nat.zero_le _, by omega, by simp, rfl, ⟨by repeat (first | exact MK.refl _ _ | apply MK.drewN | apply MK.drew)⟩⟩
    case round =>
      obtain ⟨i, hi, hg, rfl, rfl, HM⟩ := hrel
      by_cases hlt : i < n
      · have hltz : (i : Int) < (n : Int) := by omega
        obtain ⟨cs', hb', hc'⟩ := HM.out.rows g cs _ _ HB0.out
        obtain ⟨x0, hx0, qx0⟩ := HQ.out i (by omega)
        obtain ⟨y0, hy0, sy0⟩ := hc' _ _ hx0
        obtain ⟨m0, rfl⟩ := isInt.move qx0 sy0
        clear hx0 qx0 sy0 hc'
        have hc0 : wr.cell? ⟨g, i, none⟩ = some (.int .i64 m0) := (blk_cell hb' _).trans hy0
        have hf0 : wr.frozen? ⟨g, i, none⟩ = false := blk_frozen hb' _
        have M1 := HM.out.set hb' hy0 HP.out (a + (i : Int))
        have e2 : wrap64 (a + (i : Int) + 1) = a + ((i + 1 : Nat) : Int) := by have := HA.out; have := HN.out; unfold wrap64; omega
        have e3 : wrap64 ((i : Int) + 1) = ((i + 1 : Nat) : Int) := by have := HA.out; have := HN.out; unfold wrap64; omega
        have HM2 := Aside0.mk M1
        have E2 := Aside0.mk e2
        have E3 := Aside0.mk e3
        clear M1 hb' hy0 e2 e3
        have p5 := eq_true (show (0 : Int) ≤ (i : Int) from Int.natCast_nonneg _)
        have q5 := eq_true hltz
        go_wp2
        go_roundg (n - (i + 1))
        case measure => omega
        case rel => exact ⟨i + 1, by omega, by omega, by first | exact congrArg _ E2.out | (rw [E2.out]), by first | exact congrArg _ E3.out | (rw [E3.out]), by repeat (first | exact HM2 | apply MK.drewN | apply MK.drew)⟩
      · have hltz : ¬ (i : Int) < (n : Int) := by omega
        obtain rfl : i = n := by omega
        go_wp2
        go_ret
        exact ⟨rfl, by repeat (first | exact HM.out | apply MK.drewN | apply MK.drew)⟩
theorem isForm {w : World} {P : Nat → Prop} {v : Value} {n : Nat} (h : MInts w P v n) : ∃ A c, v = .slice A n c := by
  rcases h with ⟨rfl, A, c, hv⟩ | ⟨g, c, cs, hv, _⟩
  · exact ⟨A, c, hv⟩
  · exact ⟨_, c, hv⟩
/-- How many cells are marked. -/
def isCnt (l : List (List Int)) : Nat := (l.map fun x => x.length).sum
theorem isCnt_take (l : List (List Int)) (i : Nat) (h : i < l.length) : isCnt (l.take (i + 1)) = isCnt (l.take i) + l[i].length := by
  unfold isCnt
  rw [List.take_add_one, List.getElem?_eq_getElem h, Option.toList_some, List.map_append, List.sum_append]
  simp
theorem isCnt_le (l : List (List Int)) (i : Nat) : isCnt (l.take i) ≤ isCnt l := by
  conv => rhs; rw [← List.take_append_drop i l]
  unfold isCnt
  rw [List.map_append, List.sum_append]
  omega
def QIS (w : World) (P : Nat → Prop) (l : List (List Int)) (j : Nat) (x : Value) : Prop := MInts w P x (l.getD j []).length
theorem QIS.move {w : World} {P : Nat → Prop} {l : List (List Int)} (j : Nat) (x x' : Value) (h : QIS w P l j x) (hs : sameInt x x') : QIS w P l j x' := by
  unfold QIS at *
  obtain ⟨A, c, rfl⟩ := isForm h
  obtain rfl := slice_move hs
  exact h
/-- A row of rows of whole numbers that may be marked. -/
def MIntSS (w : World) (P : Nat → Prop) (v : Value) (l : List (List Int)) : Prop := MRow w 39 (l.length * 1) P (QIS w P l) v l.length
theorem MIntSS.of_R {base : Nat} {w : World} {P : Nat → Prop} {v : Value} {l : List (List Int)} (h : Kd.R (Kd.slice 3 (Kd.int .i64)) 39 w base P v l) : MIntSS w P v l :=
  MRow.of_R [] h (QIS w P l) (fun i hi c hc hM q x hx => by
    obtain ⟨v0, rfl, hv0⟩ := hM
    rcases q with _ | q
    · injection hx with hx
      subst hx
      show QIS w P l (i * 1 + 0) _
      unfold QIS
      rw [show i * 1 + 0 = i by omega]
      exact MInts.of_R hv0
    · cases hx)
set_option maxHeartbeats 8000000 in
set_option maxRecDepth 100000 in
theorem markIntSS_any (P : Nat → Prop) (v : Value) (l : List (List Int)) (a : Int) (w W : World) (h : MIntSS w P v l) (hW : MK w W P) (ha : 0 ≤ a) (hn : a + (isCnt l : Int) < 4611686018427387904) (hl : l.length < 4611686018427387904) :
    Calls Try.prog 48 #[v, .int .i64 a] W fun e w' => e = .returned (.int .i64 (a + (isCnt l : Int))) ∧ MK w w' P := by
  rcases h with ⟨h0, A, c, hv⟩ | ⟨g, c, cs, hv, hb, hp, hq⟩
  · obtain rfl : l = [] := List.eq_nil_of_length_eq_zero h0
    subst hv
    have e0 : a + (isCnt [] : Int) = a := by show a + ((0 : Nat) : Int) = a; omega
    rw [e0]
    have HM := Aside0.mk hW
    clear hn e0 h0 hl hW
    go_enter Try.func48, Try.ntmps48
    go_wp2
    refine wp_loop_rounds 1 ?_
    rw [rounds_succ]
    go_wp2
    go_ret
    exact ⟨rfl, by repeat (first | exact HM.out | apply MK.drewN | apply MK.drew)⟩
  · subst hv
    have HB0 := Aside0.mk hb
    have HQ := Aside0.mk hq
    have HN := Aside0.mk hn
    have HA := Aside0.mk ha
    have HL := Aside0.mk hl
    have HM0 := Aside0.mk hW
    clear hb hp hq hn ha hl hW
    go_enter Try.func48, Try.ntmps48
    go_wp2
    go_loopg [1, 5] l.length (fun gg v1 v5 wr => ∃ i : Nat, i ≤ l.length ∧ l.length - i ≤ gg ∧ v1 = .int .i64 (a + (isCnt (l.take i) : Int)) ∧ v5 = .int .i64 i ∧ Aside0 (MK w wr P))
    case atStart => exact ⟨0, Nat.zero_le _, by omega, by show _ = Value.int .i64 (a + ((0 : Nat) : Int)); simp, rfl, ⟨by repeat (first | exact HM0.out | apply MK.drewN | apply MK.drew)⟩⟩
    case round =>
      clear HM0
      obtain ⟨i, hi, hg, rfl, rfl, HM⟩ := hrel
      by_cases hlt : i < l.length
      · have hltz : (i : Int) < (l.length : Int) := by omega
        have hcn := isCnt_take l i hlt
        have hcl := isCnt_le l (i + 1)
        obtain ⟨q, hqq⟩ : ∃ q, a + (isCnt (l.take i) : Int) = q := ⟨_, rfl⟩
        have hq0 : 0 ≤ q := by have := HA.out; omega
        have hq1 : q + (l[i].length : Int) < 4611686018427387904 := by have := HN.out; omega
        have hq2 : q + (l[i].length : Int) = a + (isCnt (l.take (i + 1)) : Int) := by omega
        rw [hqq]
        clear hqq hcn hcl
        obtain ⟨cs', hb', hc'⟩ := HM.out.rows g cs _ _ HB0.out
        obtain ⟨x0, hx0, qx0⟩ := HQ.out i (by omega)
        obtain ⟨y0, hy0, sy0⟩ := hc' _ _ hx0
        have qx0' := QIS.move _ _ _ qx0 sy0
        clear qx0 sy0 hx0 hc'
        unfold QIS at qx0'
        rw [List.getD_eq_getElem?_getD, List.getElem?_eq_getElem hlt, Option.getD_some] at qx0'
        obtain ⟨wn, hwn⟩ : ∃ n, l[i].length = n := ⟨_, rfl⟩
        rw [hwn] at hq1 hq2 qx0'
        clear hwn
        obtain ⟨A0, c0, rfl⟩ := isForm qx0'
        have hc0 : wr.cell? ⟨g, i, none⟩ = some (.slice A0 wn c0) := (blk_cell hb' _).trans hy0
        have e3 : wrap64 ((i : Int) + 1) = ((i + 1 : Nat) : Int) := by have := HL.out; unfold wrap64; omega
        have QN := Aside0.mk qx0'
        have HQ1 := Aside0.mk hq1
        have HQ2 := Aside0.mk hq2
        have HQ0 := Aside0.mk hq0
        have E3 := Aside0.mk e3
        clear hb' hy0 e3 hq0 hq1 hq2 qx0'
        have p5 := eq_true (show (0 : Int) ≤ (i : Int) from Int.natCast_nonneg _)
        have q5 := eq_true hltz
        go_wp2_with (go_at_call 25; (refine (markInts_any P _ wn q _ ?side1 ?side2 ?side3).mono ?_); (case side1 => exact MRow.move QN.out (by repeat (first | exact HM.out | apply MK.drewN | apply MK.drew)) (fun _ _ _ h hs => isInt.move h hs)); (case side2 => exact HQ0.out); (case side3 => exact HQ1.out); rintro e w2 ⟨rfl, hm⟩; have HM2 := Aside0.mk (HM.out.trans hm); clear hm)
        go_roundg (l.length - (i + 1))
        case measure => omega
        case rel => exact ⟨i + 1, by omega, by omega, by first | exact congrArg _ HQ2.out | (rw [HQ2.out]), by first | exact congrArg _ E3.out | (rw [E3.out]), by repeat (first | exact HM2 | apply MK.drewN | apply MK.drew)⟩
      · have hltz : ¬ (i : Int) < (l.length : Int) := by omega
        obtain rfl : i = l.length := by omega
        rw [List.take_length]
        go_wp2
        go_ret
        exact ⟨rfl, by repeat (first | exact HM.out | apply MK.drewN | apply MK.drew)⟩
/-- A flat row whose block is none of those that may have turned. -/
theorem R_keepP {α : Type} {d : Kd α} {e base : Nat} {ok S : Nat → Prop} {W W2 : World} {v : Value} {xs : List α} (hE : d.E = []) (h : d.R e W base ok v xs) (hk : Kept W W2 S) (hne : ∀ k, v.ownBlock = some k → ¬ S k) : d.R e W2 base ok v xs :=
  Kd.R_reok hE (Kd.R_keptB (Kd.R_tight hE h) hk (fun k e_ => hne k e_.symm)) (fun k e_ => h.1 k e_)
/-- A block of rows or of whole numbers. -/
def mkI (w : World) (k : Nat) : Prop := ∃ q cells, q ∈ [39, 3] ∧ w.heap[k]? = some (.cells cells q (0, 0))
theorem blk_keepP {P : Nat → Prop} {W W2 : World} {B g : Nat} {cs : Array Value} {t : TypeId} (h : W.heap[g]? = some (.cells cs t (0, 0))) (hk : Kept W W2 (fun k => P k ∧ B ≤ k ∧ mkI W k)) (ht : ¬ t ∈ [39, 3]) : W2.heap[g]? = some (.cells cs t (0, 0)) :=
  blk_kept h hk (fun hs => by
    obtain ⟨_, _, q', cells', hq', hc'⟩ := hs
    rw [h] at hc'
    injection hc' with hc'
    injection hc' with _ h2 _
    exact ht (by rw [h2]; exact hq'))
/-- A flat row of another type. -/
theorem R_keepI {α : Type} {d : Kd α} {e base B : Nat} {ok P : Nat → Prop} {W W2 : World} {v : Value} {xs : List α} (h : d.R e W base ok v xs) (hk : Kept W W2 (fun k => P k ∧ B ≤ k ∧ mkI W k)) (ht : ∀ q, q ∈ e :: d.E → ¬ q ∈ [39, 3]) : d.R e W2 base ok v xs :=
  Kd.R_mono (Kd.R_keptB (Kd.R_bound h) hk (fun k hk hs => by
    obtain ⟨_, _, _, q, hq, cells, hc⟩ := hk
    obtain ⟨_, _, q', cells', hq', hc'⟩ := hs
    rw [hc] at hc'
    injection hc' with hc'
    injection hc' with _ h2 _
    exact ht q hq (by rw [h2]; exact hq'))) (fun _ hk => hk.1.1)
/-- 'markCnf': the number behind the last. -/
def laws_markCnf.f (_ : Int) (l : List (List Int)) (a : Int) : Option Int :=
  if 0 ≤ a ∧ a + (isCnt l : Int) < 4611686018427387904 ∧ l.length < 4611686018427387904 then some (a + (isCnt l : Int)) else none
set_option maxHeartbeats 8000000 in
set_option maxRecDepth 100000 in
theorem laws_markCnf.calls (a0 : Int) (P : Nat → Prop) (u : Value) (l : List (List Int)) (a r1 : Int) (w0 w : World) (hB : Below w0.heap.size w0 w)
    (ho : Kd.R (Kd.slice 3 (Kd.int .i64)) 39 w w0.heap.size P u l) (h : laws_markCnf.f a0 l a = some r1) :
    Calls Try.prog 24 #[.agg #[.int .i64 a0, u], .int .i64 a] w fun e w' => e = .returned (.int .i64 r1) ∧ Below w0.heap.size w0 w' ∧ Kept w w' (fun k => P k ∧ w0.heap.size ≤ k ∧ mkI w k) := by
  unfold laws_markCnf.f at h
  split at h
  case isFalse => cases h
  rename_i hc
  obtain ⟨h0, h1, h2⟩ := hc
  obtain rfl := Option.some.inj h
  have r2 : Kd.R (Kd.slice 3 (Kd.int .i64)) 39 w w0.heap.size (fun k => P k ∧ w0.heap.size ≤ k ∧ mkI w k) u l := Kd.R_mono (Kd.R_bound ho) (fun k hk => by
    obtain ⟨hp, hb, _, q, hq, cells, hc⟩ := hk
    refine ⟨hp, hb, q, cells, ?_, hc⟩
    rcases List.mem_cons.mp hq with e | e
    · rw [e]; exact List.mem_cons_self
    · have e2 : q ∈ [3] := e
      have : q = 3 := by simpa using e2
      rw [this]; decide)
  have hP : ∀ k, (P k ∧ w0.heap.size ≤ k ∧ mkI w k) → w0.heap.size ≤ k := fun k hk => hk.2.1
  obtain ⟨T, hT⟩ : ∃ T : Nat → Prop, (fun k => P k ∧ w0.heap.size ≤ k ∧ mkI w k) = T := ⟨_, rfl⟩
  have hPT : ∀ k, T k → w0.heap.size ≤ k := fun k hk => by rw [← hT] at hk; exact hP k hk
  rw [hT] at r2 ⊢
  have HI := Aside0.mk (MIntSS.of_R r2)
  obtain ⟨Au, cu, rfl⟩ := Kd.R_slice ho
  have HB := Aside0.mk hB
  have HX := Aside0.mk (And.intro h0 (And.intro h1 h2))
  have HPT := Aside0.mk hPT
  clear ho r2 hB h hP hPT hT h0 h1 h2
  go_enter Try.func24, Try.ntmps24
  go_wp2_with (go_at_call 48; (refine (markIntSS_any T _ l a w _ HI.out ?side1 HX.out.1 HX.out.2.1 HX.out.2.2).mono ?_); (case side1 => exact MK.of_below _ (by repeat (first | exact Below.refl _ _ | apply below_alloc))); rintro e w2 ⟨rfl, hm⟩; have HM2 := Aside0.mk hm; clear hm)
  go_ret
  exact ⟨rfl, HM2.out.below HB.out HPT.out, HM2.out.kept⟩


/-! ### spec_l1Own: function 68 -/
def spec_l1Own.f (l0 : List Int) : Option (List Int) := (some (([] : List Int) : List Int)).bind fun y361 => (if y361.length + l0.length < 17592186044416 then (some (y361 ++ l0)) else (none))
set_option maxHeartbeats 8000000 in
set_option maxRecDepth 100000 in
theorem spec_l1Own.calls (A0 : Option Addr) (c0 : Nat) (l0 : List Int) (r : List Int) (w : World) (hr0 : Kd.C (Kd.int .i64) w A0 l0.length l0) (hc0 : l0.length ≤ c0) (h : spec_l1Own.f l0 = some r) :
    Calls Try.prog 68 #[.slice A0 l0.length c0] w fun e w' => ∃ v0_ : Value, e = .returned (v0_) ∧ Kd.R (Kd.int .i64) 3 w' w.heap.size (fun _ => True) v0_ r ∧ Below w.heap.size w w' := by
  have HR0 := Aside0.mk hr0
  have HC0 := Aside0.mk hc0
  clear hr0 hc0
  have HB := Aside0.mk (Below.refl w.heap.size w)
  have H : ((some (([] : List Int) : List Int)).bind fun y361 => (if y361.length + l0.length < 17592186044416 then (some (y361 ++ l0)) else (none))) = some r := h
  clear h
  obtain ⟨y361, hy361⟩ : ∃ y_ : List Int, y_ = (([] : List Int)) := ⟨_, rfl⟩
  replace H : (if y361.length + l0.length < 17592186044416 then (some (y361 ++ l0)) else (none)) = some r := qY hy361 H
  have Ny361 := Aside0.mk hy361
  clear hy361
  by_cases c2 : y361.length + l0.length < 17592186044416
  · rw [if_pos c2] at H
    have LMc2 := Aside0.mk c2
    clear c2
    obtain ⟨y364, hy364⟩ : ∃ y_ : List Int, y_ = (y361 ++ l0) := ⟨_, rfl⟩
    replace H : (some y364) = some r := qY hy364 H
    have Ny364 := Aside0.mk hy364
    clear hy364
    obtain rfl := Option.some.inj H
    go_enter Try.func68, Try.ntmps68
    go_wp2_with (first | ((with_reducible refine gate_dst (N := 3) rfl ?_); refine Kd.R_lit (Kd.int .i64) _ 3 ?hg (N := 3) ?hd (xs := ([] : List Int)) (inner := []) (ok := fun _ => True) (okp := fun _ => True) ?hr ?hp (fun _ hk => hk) trivial (Below.refl _ _) (Nat.le_refl _) (by simp) ?_; (case hd => rfl); (case hg => rfl); (case hr => first | (go_simp; done) | (go_simp; rfl)); (case hp => exact (Reps.none _ _)); intro v362 w3 ho4 hb hg_ hnew_; clear hg_ hnew_; (first | rw [← Ny361.out] at ho4 | (simp only [Int.reduceToNat] at ho4; rw [← Ny361.out] at ho4)); have n0_ := Aside0.mk (Kd.R_lower ho4 (below_size (qB))); have n1_ := Aside0.mk (below_step (qB) hb); clear HB; have HO363 := n0_; have HB := n1_; clear n0_ n1_; clear hb ho4) | ((with_reducible refine gate_builtin (b := .append) (xs := #[.tmp 3, .tmp 4]) rfl ?_); at_builtin; refine Kd.R_append_rows (Kd.int .i64) (w0 := w) w.heap.size rfl (.tmp 3) (.tmp 4) 39 3 (.int .i64 0) 8 rfl Try.underlying39 info3 rfl (by decide) (by omega) v362 y361 l0 _ _ _ (fun _ => True) (fun _ => False) rfl rfl ?aO ?aR (fun _ _ h => h) (fun _ h => h.elim) ?aF ?aB ?aS ?aL ?_; (case aR => exact qC (Kd.C_below HR0.out HB.out)); (case aB => exact (qB)); (case aF => exact (fun _ _ => trivial)); (case aO => exact (qR HO363.out)); (case aS => exact (below_size (qB))); (case aL => have := LMc2.out; omega); intro v365 w5 ho hb hg hat; rw [← Ny364.out] at ho; have n0_ := Aside0.mk (hb); have n1_ := Aside0.mk (ho); clear HB; clear HO363; have HB := n0_; have HO366 := n1_; clear n0_ n1_; clear ho hb hg hat))
    go_ret
    exact ⟨_, qE, qR HO366.out, qB⟩
  · rw [if_neg c2] at H
    exact absurd H (by simp)

-- NOT PRINTED: function 49 (spec_l6Try_try)


-- HAND
/-! ### spec_Solve: function 27 -/
-- IMPORT Derived.StillTailTactics
-- IMPORT Derived.Deep.QuietTactic
-- IMPORT Derived.BigQuiet
/-- The first place from i on where nothing stands, or behind the last. -/
def fkA (s : List Int) : Nat → Nat → Nat
  | 0, i => i
  | d + 1, i => if rd s (i : Int) = 0 then i else fkA s d (i + 1)
/-- 'try': a code, the values, the nodes made. -/
def trF : Nat → Int → List (List Int) → Int → Int → List Int → Option (Int × List Bool × Int)
  | 0, _, _, _, _, _ => none
  | k + 1, n, L, b, m, s => if (s.length : Int) = n + 1 ∧ 0 ≤ n ∧ n ≤ 1000000 then
      (spec_l6Force.f k n L s).bind fun r => if r.1 = true then some (2, [], m) else
        if fkA r.2 n.toNat 1 = r.2.length then some (1, (r.2.drop 1).map (fun y => y == 1), m) else
        if m = b then some (3, [], m) else
        (trF k n L b (wrap64 (m + 1)) (r.2.set (fkA r.2 n.toNat 1) (-1))).bind fun q => if q.1 = 2 then trF k n L b q.2.2 (r.2.set (fkA r.2 n.toNat 1) 1) else some q
    else none
theorem Kd.R_nil_len {α : Type} {d : Kd α} {e : Nat} {w : World} {base : Nat} {ok : Nat → Prop} {xs : List α} (h : Kd.R d e w base ok (.slice none 0 0) xs) : xs = [] := by
  have hl := (Kd.R_reads' h).1
  exact List.eq_nil_of_length_eq_zero hl.symm
theorem below_step' {w0 w w1 : World} (h : Below w0.heap.size w0 w) (k : Below w.heap.size w w1) : Below w0.heap.size w0 w1 := below_then h h.size k
theorem Kd.own_lt {α : Type} {d : Kd α} {e : Nat} {w : World} {base : Nat} {ok : Nat → Prop} {v : Value} {xs : List α} (h : Kd.R d e w base ok v xs) (k : Nat) (hk : v.ownBlock = some k) : k < w.heap.size := by
  obtain ⟨cells, hc⟩ := Kd.R_typed h k hk
  exact blk_lt hc
theorem own_self (s : List Int) (h : s.length ≤ 1000001) : spec_l1Own.f s = some s := by
  unfold spec_l1Own.f
  rw [Option.bind_some, List.nil_append, if_pos (by rw [List.length_nil]; omega)]
/-- The search's state behind a call. -/
def TrOut (w0 W : World) (G : Nat) (n : Int) (A0 : Option Addr) (c0 ll : Nat) (b m code : Int) (vals : List Bool) : Prop :=
  ∃ v, W.heap[G]? = some (.cells #[.int .i64 n, .slice A0 ll c0, .int .i64 b, .int .i64 m, v] 71 (0, 0)) ∧ Kd.R Kd.bool 4 W w0.heap.size (fun _ => True) v vals ∧ (code ≠ 1 → v = .slice none 0 0)
theorem TrOut.nil {w0 W : World} {G : Nat} {n : Int} {A0 : Option Addr} {c0 ll : Nat} {b m code : Int} (h : W.heap[G]? = some (.cells #[.int .i64 n, .slice A0 ll c0, .int .i64 b, .int .i64 m, .slice none 0 0] 71 (0, 0))) : TrOut w0 W G n A0 c0 ll b m code [] :=
  ⟨_, h, Kd.R_nil _ _ _ _ _, fun _ => rfl⟩
set_option maxHeartbeats 8000000 in
set_option maxRecDepth 100000 in
theorem trCalls (k : Nat) : ∀ (G : Nat) (n : Int) (A0 : Option Addr) (c0 : Nat) (L : List (List Int)) (b m : Int) (u : Value) (s : List Int) (code : Int) (vals : List Bool) (m' : Int) (w0 w : World), Below w0.heap.size w0 w →
    w.heap[G]? = some (.cells #[.int .i64 n, .slice A0 L.length c0, .int .i64 b, .int .i64 m, .slice none 0 0] 71 (0, 0)) → w0.heap.size ≤ G → Kd.C (Kd.slice 3 (Kd.int .i64)) w0 A0 L.length L → L.length ≤ c0 → Kd.R (Kd.int .i64) 3 w w0.heap.size (fun _ => True) u s →
    trF k n L b m s = some (code, vals, m') →
    Calls Try.prog 49 #[.pointer (some ⟨G, 0, none⟩), u] w fun e w' => e = .returned (.int .i64 code) ∧ TrOut w0 w' G n A0 c0 L.length b m' code vals ∧ Below w0.heap.size w0 w' ∧ Kept w w' (fun k => k = G ∨ some k = u.ownBlock) := by
  induction k with
  | zero => intro G n A0 c0 L b m u s code vals m' w0 w hB hG hge hL hc ho h; simp [trF] at h
  | succ k ih =>
    intro G n A0 c0 L b m u s code vals m' w0 w hB hG hge hL hc ho h
    rw [trF] at h
    split at h
    case isFalse => cases h
    rename_i hn
    obtain ⟨hn0, hn1, hn2⟩ := hn
    obtain ⟨⟨b1, s1⟩, hf, h⟩ := Option.bind_eq_some_iff.mp h
    have hw0 : w0.heap.size ≤ w.heap.size := hB.size
    have hu27 := Try.underlying27
    have hu71 := Try.underlying71
    obtain ⟨Au, cu, rfl⟩ := Kd.R_slice ho
    have HB := Aside0.mk hB
    have HG := Aside0.mk hG
    have HL := Aside0.mk hL
    have HC0 := Aside0.mk hc
    have HO := Aside0.mk ho
    have AF := Aside0.mk hf
    have hcz0 : w.cell? ⟨G, 0, none⟩ = some (.int .i64 n) := (blk_cell hG 0).trans rfl
    have hcz1 : w.cell? ⟨G, 1, none⟩ = some (.slice A0 L.length c0) := (blk_cell hG 1).trans rfl
    clear hB hG hL hc ho hf
    cases b1 with
    | true =>
      rw [if_pos rfl] at h
      simp only [Option.some.injEq, Prod.mk.injEq] at h
      obtain ⟨rfl, rfl, rfl⟩ := h
      go_enter Try.func49, Try.ntmps49
      go_wp2_with (((with_reducible refine gate_callee (f := 44) rfl ?_); refine goesL_ (some 17) rfl rfl Try.func44 (by kernel_rfl) rfl #[.agg #[.int .i64 n, .slice A0 L.length c0], .slice Au s.length cu] rfl qG ?_; (with_reducible refine (spec_l6Force.calls k n _ _ L (fun k_ => some k_ = (.slice Au s.length cu : Value).ownBlock) (.slice Au s.length cu) s true s1 w0 _ HB.out ?side2 HC0.out (Kd.R_tight rfl HO.out) AF.out).mono ?_); (case side2 => exact Kd.C_kept_came (Kd.heap_slice 3 (Kd.heap_int .i64)) HL.out HB.out (fun k_ hs_ => Kd.R_base HO.out k_ hs_.symm)); rintro e w2 ⟨rfl, hy0, hb, hkp⟩; refine ⟨_, rfl, ?_⟩; have n0_ := Aside0.mk (blk_kept HG.out hkp (fun hs_ => Kd.R_ne HO.out HG.out (by decide) hs_)); have n1_ := Aside0.mk hb; have n2_ := Aside0.mk hkp; clear HB HG; have HG := n0_; have HB := n1_; have HK := n2_; clear n0_ n1_ n2_ hb hkp hy0))
      go_ret
      exact ⟨rfl, TrOut.nil HG.out, HB.out, HK.out.mono fun _ hk => .inr hk⟩
    | false =>
      dsimp only at h
      rw [if_neg (by decide)] at h
      obtain ⟨T, hT⟩ : ∃ T, fkA s1 n.toNat 1 = T := ⟨_, rfl⟩
      rw [hT] at h
      have HH := Aside0.mk h
      clear h
      go_enter Try.func49, Try.ntmps49
      go_wp2_with (((with_reducible refine gate_callee (f := 44) rfl ?_); refine goesL_ (some 17) rfl rfl Try.func44 (by kernel_rfl) rfl #[.agg #[.int .i64 n, .slice A0 L.length c0], .slice Au s.length cu] rfl qG ?_; (with_reducible refine (spec_l6Force.calls k n _ _ L (fun k_ => some k_ = (.slice Au s.length cu : Value).ownBlock) (.slice Au s.length cu) s false s1 w0 _ HB.out ?side2 HC0.out (Kd.R_tight rfl HO.out) AF.out).mono ?_); (case side2 => exact Kd.C_kept_came (Kd.heap_slice 3 (Kd.heap_int .i64)) HL.out HB.out (fun k_ hs_ => Kd.R_base HO.out k_ hs_.symm)); rintro e w2 ⟨rfl, hy0, hb, hkp⟩; refine ⟨_, rfl, ?_⟩; have n0_ := Aside0.mk (blk_kept HG.out hkp (fun hs_ => Kd.R_ne HO.out HG.out (by decide) hs_)); have n1_ := Aside0.mk hb; have n2_ := Aside0.mk hkp; have n3_ := Aside0.mk (Kd.R_mono hy0 (fun _ _ => trivial)); clear HB HG HO; have HG := n0_; have HB := n1_; have HK := n2_; have HO := n3_; clear n0_ n1_ n2_ n3_ hb hkp hy0; have hcw0 : w2.cell? ⟨G, 0, none⟩ = some (.int .i64 n) := (blk_cell HG.out 0).trans rfl; have hcw2 : w2.cell? ⟨G, 2, none⟩ = some (.int .i64 b) := (blk_cell HG.out 2).trans rfl; have hcw3 : w2.cell? ⟨G, 3, none⟩ = some (.int .i64 m) := (blk_cell HG.out 3).trans rfl; have hcw4 : w2.cell? ⟨G, 4, none⟩ = some (.slice none 0 0) := (blk_cell HG.out 4).trans rfl))
      obtain ⟨hls, hcl, hCs⟩ := Kd.R_reads' HO.out
      have HCS := Aside0.mk hCs
      clear hCs
      go_loop [5] (fun v5 => ∃ kk : Nat, 1 ≤ kk ∧ kk ≤ s1.length ∧ v5 = .int .i64 (kk : Int) ∧ Aside0 (fkA s1 (s1.length - kk) kk = T)) (fun v5 => s1.length - (intOf v5).toNat)
      case atStart => exact ⟨1, Nat.le_refl _, by omega, rfl, ⟨by rw [show s1.length - 1 = n.toNat by omega]; exact hT⟩⟩
      case round =>
        obtain ⟨kk, hk1, hk2, rfl, HF⟩ := hrel
        by_cases hlt : kk < s1.length
        · obtain ⟨ad, e0, hx⟩ := Kd.at_int HCS.out (kk : Int) (by omega) (by omega)
          subst e0
          rw [Int.toNat_natCast] at hx
          obtain ⟨d, hd⟩ : ∃ d, s1.length - kk = d + 1 := ⟨s1.length - kk - 1, by omega⟩
          have hF := HF.out
          rw [hd, fkA] at hF
          have hle : decide ((kk : Int) ≤ n) = true := decide_eq_true (by omega)
          have p6 : ((0 : Int) ≤ (kk : Int)) = True := eq_true (by omega)
          have q6 : ((kk : Int) < (s.length : Int)) = True := eq_true (by omega)
          by_cases h0 : rd s1 (kk : Int) = 0
          · rw [if_pos h0] at hF
            subst hF
            have hgt : decide ((kk : Int) > n) = false := decide_eq_false (by omega)
            have hne : (rd s1 (kk : Int) != 0) = false := by rw [h0]; rfl
            have hH := HH.out
            rw [if_neg (by omega)] at hH
            by_cases hmb : m = b
            · rw [if_pos hmb] at hH
              simp only [Option.some.injEq, Prod.mk.injEq] at hH
              obtain ⟨rfl, rfl, rfl⟩ := hH
              have hmb1 : (m == b) = true := beq_iff_eq.mpr hmb
              go_wp2
              go_quiet (fail)
              go_wp2
              go_ret
              exact ⟨rfl, TrOut.nil HG.out, pw_below_drewN HB.out _, (HK.out.mono fun _ hk => .inr hk).drewN _⟩
            · rw [if_neg hmb] at hH
              have hmb1 : (m == b) = false := beq_eq_false_iff_ne.mpr hmb
              obtain ⟨⟨q1, q2, q3⟩, hq, hH⟩ := Option.bind_eq_some_iff.mp hH
              have HQ := Aside0.mk hq
              have HH2 := Aside0.mk hH
              clear hq hH
              have hfz3 := blk_frozen HG.out 3
              go_wp2
              go_quiet (fail)
              go_wp2
              have hown : spec_l1Own.f s1 = some s1 := own_self s1 (by omega)
              have HOWN := Aside0.mk hown
              have HSZ : Aside0 (((w2.drewN nq).setCell ⟨G, 3, none⟩ (.int .i64 (wrap64 (m + 1)))).heap.size = w2.heap.size) := ⟨by simp [World.setCell, World.drewN]⟩
              have HX0 := Aside0.mk (blk_new ((w2.drewN nq).setCell ⟨G, 3, none⟩ (.int .i64 (wrap64 (m + 1)))) (.cells #[.int .i64 (-1), .int .i64 1] 3 (0, 0)))
              have HX1 := Aside0.mk (HSZ.out ▸ HX0.out)
              have HG1 := Aside0.mk (blk_alloc (by simpa using blk_set (blk_drewN HG.out nq) 3 (.int .i64 (wrap64 (m + 1)))) (.cells #[.int .i64 (-1), .int .i64 1] 3 (0, 0)))
              have HS1 := Aside0.mk (Kd.R_alloc (Kd.R_set (Kd.R_drewN HO.out nq) (blk_drewN HG.out nq) (by decide) 3 (.int .i64 (wrap64 (m + 1)))) (.cells #[.int .i64 (-1), .int .i64 1] 3 (0, 0)))
              have HB1 := Aside0.mk (below_alloc (below_set (j := 3) (v := .int .i64 (wrap64 (m + 1))) (pw_below_drewN HB.out nq) hge) (.cells #[.int .i64 (-1), .int .i64 1] 3 (0, 0)))
              have HK1 := Aside0.mk ((((HK.out.mono (S' := fun k => k = G ∨ some k = (Value.slice (some ad) s.length cu).ownBlock) fun _ hk => .inr hk).drewN nq).setCell (p := ⟨G, 3, none⟩) (.inl (.inl rfl)) (.int .i64 (wrap64 (m + 1)))).alloc (.cells #[.int .i64 (-1), .int .i64 1] 3 (0, 0)))
              clear hown
              go_loopw [78] (fun v78 w' => ∃ (j : Nat) (mm : Int), j ≤ 2 ∧ v78 = .int .i64 (j : Int) ∧ Aside0 ((j = 0 ∧ mm = wrap64 (m + 1)) ∨ (j = 1 ∧ q1 = 2 ∧ mm = q3) ∨ (j = 2 ∧ code = 2 ∧ vals = [] ∧ mm = m')) ∧ Aside0 (w'.heap[G]? = some (.cells #[.int .i64 n, .slice A0 L.length c0, .int .i64 b, .int .i64 mm, .slice none 0 0] 71 (0, 0))) ∧ Aside0 (w'.heap[w2.heap.size]? = some (.cells #[.int .i64 (-1), .int .i64 1] 3 (0, 0))) ∧ Aside0 (Kd.R (Kd.int .i64) 3 w' w0.heap.size (fun _ => True) (.slice (some ad) s1.length cu) s1) ∧ Aside0 (Below w0.heap.size w0 w') ∧ Aside0 (Kept w w' (fun k => k = G ∨ some k = (Value.slice (some ad) s.length cu).ownBlock))) (fun v78 _ => 2 - (intOf v78).toNat)
              case atStart => exact ⟨0, wrap64 (m + 1), Nat.zero_le _, rfl, ⟨.inl ⟨rfl, rfl⟩⟩, HG1, HX1, ⟨hls ▸ HS1.out⟩, HB1, HK1⟩
              case round =>
                clear HG HB HO HCS HK hcw0 hcw2 hcw3 hcw4 hx hfz3 HX0 HX1 HG1 HS1 HB1 HK1
                obtain ⟨j, mm, hj2, rfl, HJ, HG, HX, HS, HB, HK⟩ := hrel
                by_cases hjl : j < 2
                · obtain ⟨sg, hsg⟩ : ∃ sg : Int, sg = if j = 0 then -1 else 1 := ⟨_, rfl⟩
                  have hx : wr.cell? ⟨w2.heap.size, j, none⟩ = some (.int .i64 sg) := by
                    rw [blk_cell HX.out j, hsg]
                    obtain rfl | rfl : j = 0 ∨ j = 1 := by omega
                    · rfl
                    · rfl
                  obtain ⟨c1, v1, m1, htr, hnx⟩ : ∃ c1 v1 m1, trF k n L b mm (s1.set kk sg) = some (c1, v1, m1) ∧ (c1 ≠ 2 → code = c1 ∧ vals = v1 ∧ m' = m1) ∧ (c1 = 2 → (j = 0 ∧ q1 = 2 ∧ m1 = q3) ∨ (j = 1 ∧ code = 2 ∧ (vals = v1) ∧ m1 = m')) := by
                    rcases HJ.out with ⟨rfl, rfl⟩ | ⟨rfl, rfl, rfl⟩ | ⟨rfl, _⟩
                    · refine ⟨q1, q2, q3, by rw [hsg, if_pos rfl]; exact HQ.out, fun hc => ?_, fun hc => .inl ⟨rfl, hc, rfl⟩⟩
                      have h2 := HH2.out
                      rw [if_neg hc] at h2
                      simp only [Option.some.injEq, Prod.mk.injEq] at h2
                      exact ⟨h2.1.symm, h2.2.1.symm, h2.2.2.symm⟩
                    · refine ⟨code, vals, m', ?_, fun _ => ⟨rfl, rfl, rfl⟩, fun hc => .inr ⟨rfl, hc, rfl, rfl⟩⟩
                      have h2 := HH2.out
                      rw [if_pos rfl] at h2
                      rw [hsg, if_neg (by omega)]
                      exact h2
                    · omega
                  have HNX := Aside0.mk hnx
                  have HTR := Aside0.mk htr
                  clear hnx htr hsg
                  have p6 : ((0 : Int) ≤ (j : Int)) = True := eq_true (by omega)
                  have q6 : ((j : Int) < ((2 : Nat) : Int)) = True := eq_true (by omega)
                  have q62 : ((j : Int) < (2 : Int)) = True := eq_true (by omega)
                  have hd6 : decide ((j : Int) < (2 : Int)) = true := decide_eq_true (by omega)
                  by_cases hc2 : c1 = 2
                  · have hne2 : (c1 != 2) = false := by rw [hc2]; rfl
                    go_wp2_with (first | ((with_reducible refine gate_callee (f := 68) rfl ?_); refine goesL_ (some 83) rfl rfl Try.func68 (by kernel_rfl) rfl #[.slice (some ad) s1.length cu] rfl qG ?_; (with_reducible refine (spec_l1Own.calls (some ad) cu s1 s1 _ ?side1 ?side2 HOWN.out).mono ?_); (case side1 => exact (Kd.R_reads' HS.out).2.2); (case side2 => exact (Kd.R_reads' HS.out).2.1); rintro e w4 ⟨vn, rfl, ho, hb⟩; obtain ⟨go, co, rfl, hgb, hgl, cl, hgo⟩ := Kd.R_form ho (by omega); refine ⟨_, rfl, ?_⟩; have n0_ := Aside0.mk (blk_below HG.out hb); have n1_ := Aside0.mk (blk_below HX.out hb); have n2_ := Aside0.mk (Kd.R_below HS.out hb); have n3_ := Aside0.mk (below_step' HB.out hb); have n4_ := Aside0.mk (HK.out.below hb); have HGX := Aside0.mk (show go ≠ G ∧ go ≠ w2.heap.size ∧ w.heap.size ≤ go ∧ w0.heap.size ≤ go ∧ (∀ k, (Value.slice (some ad) s1.length cu).ownBlock = some k → k ≠ go) from ⟨by have := blk_lt HG.out; omega, by have := blk_lt HX.out; omega, by have := HK.out.1; omega, by have := HK.out.1; omega, fun k hk => by have := Kd.own_lt HS.out k hk; omega⟩); obtain ⟨hxn, hfn⟩ := Kd.R_celln 0 ho (kk : Int) (by omega) (by omega); have hpn := (Kd.R_putg ho (kk : Int) sg); rw [Int.toNat_natCast] at hxn hfn hpn; have HPN := Aside0.mk hpn.1; have HWR := Aside0.mk HB.out.size; have HGN := Aside0.mk hpn.2; clear HG HX HS HB HK hb hpn hgb hgl hgo ho; have HG := n0_; have HX := n1_; have HS := n2_; have HB := n3_; have HK := n4_; clear n0_ n1_ n2_ n3_ n4_) | ((with_reducible refine gate_callee (f := 49) rfl ?_); refine goesL_ (some 90) rfl rfl Try.func49 (by kernel_rfl) rfl #[.pointer (some ⟨G, 0, none⟩), .slice (some ⟨go, 0, none⟩) s1.length co] rfl qG ?_; (refine (ih G n A0 c0 L b mm (.slice (some ⟨go, 0, none⟩) s1.length co) (s1.set kk sg) c1 v1 m1 w0 _ ?sB ?sG hge HL.out HC0.out ?sR HTR.out).mono ?_); (case sB => exact below_set HB.out HGX.out.2.2.2.1); (case sG => exact blk_far HG.out (Ne.symm HGX.out.1) _); (case sR => exact Kd.R_lower HPN.out HWR.out); rintro e w6 ⟨rfl, hto, hb, hkp⟩; refine ⟨_, rfl, ?_⟩; have n0_ := Aside0.mk hto; have n1_ := Aside0.mk (blk_kept (blk_far HX.out (p := ⟨go, kk, none⟩) (Ne.symm HGX.out.2.1) (.int .i64 sg)) hkp (by rintro (h1 | h1); exact blk_ne HX.out HG.out (by decide) h1; exact HGX.out.2.1 (Option.some.inj h1).symm)); have n2_ := Aside0.mk (Kd.R_mono (Kd.R_kept (Kd.R_far (Kd.R_tight rfl HS.out) (p := ⟨go, kk, none⟩) (fun k hk => HGX.out.2.2.2.2 k hk.symm) (.int .i64 sg)) hkp (fun k hk => by rintro (h1 | h1); exact Kd.R_ne HS.out HG.out (by decide) (h1 ▸ hk); exact HGX.out.2.2.2.2 k hk.symm (Option.some.inj h1))) (fun _ _ => trivial)); have n3_ := Aside0.mk hb; have n4_ := Aside0.mk ((HK.out.setCell (p := ⟨go, kk, none⟩) (.inr HGX.out.2.2.1) (.int .i64 sg)).then_ hkp (fun k hk => by rcases hk with h1 | h1; exact .inl (.inl h1); exact .inr ((Option.some.inj h1) ▸ HGX.out.2.2.1))); clear HG HX HS HB HK hb hkp hto HPN HGN hxn hfn; have HT := n0_; have HX := n1_; have HS := n2_; have HB := n3_; have HK := n4_; clear n0_ n1_ n2_ n3_ n4_))
                    obtain ⟨v, hg6, hr6, hv6⟩ := HT.out
                    obtain rfl := hv6 (by omega)
                    go_round
                    case rel => exact ⟨j + 1, m1, by omega, by go_num, ⟨by
                      rcases HNX.out.2 hc2 with ⟨rfl, h2, h3⟩ | ⟨rfl, h2, h3, h4⟩
                      · exact .inr (.inl ⟨rfl, h2, h3⟩)
                      · exact .inr (.inr ⟨rfl, h2, by rw [h3]; exact Kd.R_nil_len hr6, h4⟩)⟩, ⟨hg6⟩, HX, HS, HB, HK⟩
                    case measure => simp [intOf]; omega
                  · have hne2 : (c1 != 2) = true := bne_iff_ne.mpr hc2
                    go_wp2_with (first | ((with_reducible refine gate_callee (f := 68) rfl ?_); refine goesL_ (some 83) rfl rfl Try.func68 (by kernel_rfl) rfl #[.slice (some ad) s1.length cu] rfl qG ?_; (with_reducible refine (spec_l1Own.calls (some ad) cu s1 s1 _ ?side1 ?side2 HOWN.out).mono ?_); (case side1 => exact (Kd.R_reads' HS.out).2.2); (case side2 => exact (Kd.R_reads' HS.out).2.1); rintro e w4 ⟨vn, rfl, ho, hb⟩; obtain ⟨go, co, rfl, hgb, hgl, cl, hgo⟩ := Kd.R_form ho (by omega); refine ⟨_, rfl, ?_⟩; have n0_ := Aside0.mk (blk_below HG.out hb); have n1_ := Aside0.mk (blk_below HX.out hb); have n2_ := Aside0.mk (Kd.R_below HS.out hb); have n3_ := Aside0.mk (below_step' HB.out hb); have n4_ := Aside0.mk (HK.out.below hb); have HGX := Aside0.mk (show go ≠ G ∧ go ≠ w2.heap.size ∧ w.heap.size ≤ go ∧ w0.heap.size ≤ go ∧ (∀ k, (Value.slice (some ad) s1.length cu).ownBlock = some k → k ≠ go) from ⟨by have := blk_lt HG.out; omega, by have := blk_lt HX.out; omega, by have := HK.out.1; omega, by have := HK.out.1; omega, fun k hk => by have := Kd.own_lt HS.out k hk; omega⟩); obtain ⟨hxn, hfn⟩ := Kd.R_celln 0 ho (kk : Int) (by omega) (by omega); have hpn := (Kd.R_putg ho (kk : Int) sg); rw [Int.toNat_natCast] at hxn hfn hpn; have HPN := Aside0.mk hpn.1; have HWR := Aside0.mk HB.out.size; have HGN := Aside0.mk hpn.2; clear HG HX HS HB HK hb hpn hgb hgl hgo ho; have HG := n0_; have HX := n1_; have HS := n2_; have HB := n3_; have HK := n4_; clear n0_ n1_ n2_ n3_ n4_) | ((with_reducible refine gate_callee (f := 49) rfl ?_); refine goesL_ (some 90) rfl rfl Try.func49 (by kernel_rfl) rfl #[.pointer (some ⟨G, 0, none⟩), .slice (some ⟨go, 0, none⟩) s1.length co] rfl qG ?_; (refine (ih G n A0 c0 L b mm (.slice (some ⟨go, 0, none⟩) s1.length co) (s1.set kk sg) c1 v1 m1 w0 _ ?sB ?sG hge HL.out HC0.out ?sR HTR.out).mono ?_); (case sB => exact below_set HB.out HGX.out.2.2.2.1); (case sG => exact blk_far HG.out (Ne.symm HGX.out.1) _); (case sR => exact Kd.R_lower HPN.out HWR.out); rintro e w6 ⟨rfl, hto, hb, hkp⟩; refine ⟨_, rfl, ?_⟩; have n0_ := Aside0.mk hto; have n1_ := Aside0.mk (blk_kept (blk_far HX.out (p := ⟨go, kk, none⟩) (Ne.symm HGX.out.2.1) (.int .i64 sg)) hkp (by rintro (h1 | h1); exact blk_ne HX.out HG.out (by decide) h1; exact HGX.out.2.1 (Option.some.inj h1).symm)); have n2_ := Aside0.mk (Kd.R_mono (Kd.R_kept (Kd.R_far (Kd.R_tight rfl HS.out) (p := ⟨go, kk, none⟩) (fun k hk => HGX.out.2.2.2.2 k hk.symm) (.int .i64 sg)) hkp (fun k hk => by rintro (h1 | h1); exact Kd.R_ne HS.out HG.out (by decide) (h1 ▸ hk); exact HGX.out.2.2.2.2 k hk.symm (Option.some.inj h1))) (fun _ _ => trivial)); have n3_ := Aside0.mk hb; have n4_ := Aside0.mk ((HK.out.setCell (p := ⟨go, kk, none⟩) (.inr HGX.out.2.2.1) (.int .i64 sg)).then_ hkp (fun k hk => by rcases hk with h1 | h1; exact .inl (.inl h1); exact .inr ((Option.some.inj h1) ▸ HGX.out.2.2.1))); clear HG HX HS HB HK hb hkp hto HPN HGN hxn hfn; have HT := n0_; have HX := n1_; have HS := n2_; have HB := n3_; have HK := n4_; clear n0_ n1_ n2_ n3_ n4_))
                    go_ret
                    obtain ⟨rfl, rfl, rfl⟩ := HNX.out.1 hc2
                    exact ⟨rfl, HT.out, HB.out, HK.out⟩
                · have e2 : j = 2 := by omega
                  have hd6 : decide ((j : Int) < (2 : Int)) = false := decide_eq_false (by omega)
                  obtain ⟨hc, hv, hm⟩ : code = 2 ∧ vals = [] ∧ mm = m' := by
                    rcases HJ.out with ⟨h1, _⟩ | ⟨h1, _⟩ | ⟨_, h1⟩
                    · omega
                    · omega
                    · exact h1
                  subst hc hv hm
                  go_wp2
                  go_ret
                  exact ⟨rfl, TrOut.nil HG.out, HB.out, HK.out⟩
          · rw [if_neg h0] at hF
            have hne : (rd s1 (kk : Int) != 0) = true := bne_iff_ne.mpr h0
            have hne2 : ¬ rd s1 (kk : Int) = 0 := h0
            go_wp2
            go_round
            case rel => exact ⟨kk + 1, by omega, by omega, by go_num, ⟨by rw [show s1.length - (kk + 1) = d by omega]; exact hF⟩⟩
            case measure => simp [intOf]; omega
        · have hF := HF.out
          rw [show s1.length - kk = 0 by omega, fkA] at hF
          subst hF
          have hH := HH.out
          rw [if_pos (by omega)] at hH
          simp only [Option.some.injEq, Prod.mk.injEq] at hH
          obtain ⟨rfl, rfl, rfl⟩ := hH
          have hle : decide ((kk : Int) ≤ n) = false := decide_eq_false (by omega)
          have hgt : decide ((kk : Int) > n) = true := decide_eq_true (by omega)
          have hq17 : (1 : Int) ≤ ((s1.length : Nat) : Int) := by omega
          obtain ⟨i017, hi017, _, hsz17, _⟩ := info_parts info3
          have hcut17 := cut_from (P := Try.prog) 39 3 .i64 Try.underlying39 hi017 1 hsz17 Au s1.length cu 1 (by omega) hq17
          obtain ⟨A17, hA17⟩ : ∃ A_, A_ = (if cu = (1 : Int).toNat then Au else (Au : Option Addr).map (·.add ((1 : Int).toNat * 1))) := ⟨_, rfl⟩
          obtain ⟨c17, hc17⟩ : ∃ c_, c_ = cu - (1 : Int).toNat := ⟨_, rfl⟩
          obtain ⟨tl, htl⟩ : ∃ tl, tl = s1.drop 1 := ⟨_, rfl⟩
          have hy17 : tl.length = s1.length - (1 : Int).toNat := by rw [htl, List.length_drop]; rfl
          rw [← hy17, ← hA17, ← hc17] at hcut17
          replace hq17 := eq_true hq17
          have HA17 := Aside0.mk hA17
          have HY17 := Aside0.mk hy17
          have HTL := Aside0.mk htl
          have hsz0 : w.heap.size ≤ w2.heap.size := HK.out.1
          clear hA17 hc17 hi017 hsz17 hy17 htl
          go_wp2
          go_loopw [44] (fun v44 w' => ∃ (j : Nat) (acc : List Bool) (va : Value), j ≤ tl.length ∧ v44 = .int .i64 (j : Int) ∧ Aside0 (acc = (tl.take j).map (fun y => y == 1)) ∧ Aside0 (w'.heap[G]? = some (.cells #[.int .i64 n, .slice A0 L.length c0, .int .i64 b, .int .i64 m, va] 71 (0, 0))) ∧ Aside0 (Kd.R Kd.bool 4 w' w.heap.size (fun _ => True) va acc) ∧ Aside0 (Kd.R (Kd.int .i64) 3 w' w0.heap.size (fun _ => True) (.slice Au s1.length cu) s1) ∧ Aside0 (Below w0.heap.size w0 w') ∧ Aside0 (Kept w w' (fun k => k = G ∨ some k = (Value.slice Au s.length cu).ownBlock))) (fun v44 _ => tl.length - (intOf v44).toNat)
          case atStart => exact ⟨0, [], .slice none 0 0, Nat.zero_le _, rfl, ⟨rfl⟩, HG, ⟨Kd.R_nil _ _ _ _ _⟩, ⟨hls ▸ HO.out⟩, HB, ⟨HK.out.mono fun _ hk => .inr hk⟩⟩
          case round =>
            obtain ⟨j, acc, va, hj, rfl, HAC, HG2, HV, HS, HB2, HK2⟩ := hrel
            by_cases hjl : j < tl.length
            · have hr17 : Kd.C (Kd.int .i64) wr A17 tl.length tl := by
                have hr := Kd.C_drop (m := (1 : Int).toNat) (c := cu) (Kd.R_reads' HS.out).2.2 (by omega) (Kd.R_reads' HS.out).2.1
                rw [show s1.drop (1 : Int).toNat = tl from HTL.out.symm] at hr
                rw [HA17.out]
                exact hr
              obtain ⟨ad, e0, hx⟩ := Kd.at_int hr17 (j : Int) (by omega) (by omega)
              subst e0
              rw [Int.toNat_natCast] at hx
              obtain ⟨y, hy⟩ : ∃ y, rd tl (j : Int) = y := ⟨_, rfl⟩
              rw [hy] at hx
              have p6 : ((0 : Int) ≤ (j : Int)) = True := eq_true (by omega)
              have q6 : ((j : Int) < (tl.length : Int)) = True := eq_true (by omega)
              have hd6 : decide ((j : Int) < (tl.length : Int)) = true := decide_eq_true (by omega)
              have hcz4 : wr.cell? ⟨G, 4, none⟩ = some va := (blk_cell HG2.out 4).trans rfl
              have hal : acc.length ≤ 1000001 := by have := HY17.out; rw [HAC.out, List.length_map, List.length_take]; omega
              have HY := Aside0.mk hy
              have hyj : y = tl[j] := by rw [← HY.out]; unfold rd; rw [Int.toNat_natCast, List.getD_eq_getElem?_getD, List.getElem?_eq_getElem hjl]; rfl
              have htl1 : tl.length ≤ 1000001 := by have := HY17.out; omega
              have HW1 : Aside0 (wrap64 ((j : Int) + 1) = ((j + 1 : Nat) : Int)) := ⟨by unfold wrap64; omega⟩
              obtain ⟨acc2, hacc2⟩ : ∃ a2 : List Bool, a2 = acc ++ [y == 1] := ⟨_, rfl⟩
              have HA2 := Aside0.mk hacc2
              clear hacc2
              have hacc3 : acc2 = (tl.take (j + 1)).map (fun y => y == 1) := by rw [HA2.out, HAC.out, List.take_add_one, List.getElem?_eq_getElem hjl, Option.toList_some, List.map_append, hyj]; rfl
              have HA3 := Aside0.mk hacc3
              clear hacc3 hyj
              clear hr17 hy
              go_wp2_with (first | ((with_reducible refine gate_builtin (b := .append) (xs := #[.tmp 52, .tmp 55]) rfl ?_); at_builtin; refine Kd.R_append Kd.bool w.heap.size rfl (.tmp 52) (.tmp 55) 31 4 (.bool false) 1 rfl Try.underlying31 info4 rfl (by decide) (by omega) va acc (y == 1) [.bool (y == 1)] (fun _ => True) (fun _ => False) rfl rfl ?aP (fun _ hk => hk.elim) ?aF ?aO (Below.refl _ _) ?aS ?aL ?_; (case aP => exact rfl); (case aF => exact (fun _ _ => trivial)); (case aO => exact HV.out); (case aS => exact HK2.out.1); (case aL => omega); intro v1 w3 ho hb hg hat; rw [← HA2.out] at ho; obtain ⟨A3, c3, rfl⟩ := Kd.R_slice ho; have HG3 := Aside0.mk (blk_grown HG2.out hg (Kd.R_ne HV.out HG2.out (by decide))); have HV3 := Aside0.mk ho; have HS3 := Aside0.mk (Kd.R_mono (Kd.R_grown (Kd.R_apart' HS.out (Kd.R_typed HV.out) (by decide)) hg (fun _ hk => hk.2)) (fun _ _ => trivial)); have HB3 := Aside0.mk (below_weaken HB2.out hw0 hb); have HK3 := Aside0.mk (Kept.of_grown hg HK2.out (fun k hk => .inr (Kd.R_base HV.out k hk))); clear ho hb hg hat; have hcz4b : w3.cell? ⟨G, 4, none⟩ = some va := (blk_cell HG3.out 4).trans rfl; have hfz4 := blk_frozen HG3.out 4))
              go_round
              case rel => exact ⟨j + 1, acc2, .slice A3 acc2.length c3, by omega, by first | exact congrArg (Value.int .i64) HW1.out | go_num, HA3, ⟨by simpa using blk_set HG3.out 4 (.slice A3 acc2.length c3)⟩, ⟨Kd.R_set HV3.out HG3.out (by decide) 4 _⟩, ⟨Kd.R_set HS3.out HG3.out (by decide) 4 _⟩, ⟨below_set HB3.out hge⟩, ⟨HK3.out.setCell (.inl (.inl rfl)) _⟩⟩
              case measure => simp [intOf]; omega
            · obtain rfl : j = tl.length := by omega
              have hac := HAC.out
              rw [List.take_length] at hac
              go_wp2
              go_ret
              refine ⟨rfl, ⟨va, HG2.out, ?_, fun e => absurd rfl e⟩, HB2.out, HK2.out⟩
              rw [← HTL.out, ← hac]
              exact Kd.R_lower HV.out hw0

theorem trF.mono : ∀ k n L b m s, LeO (trF k n L b m s) (trF (k + 1) n L b m s) := by
  intro k
  induction k with
  | zero => intro n L b m s; exact fun _ hx => by simp [trF] at hx
  | succ k ih =>
    intro n L b m s
    rw [trF, trF]
    refine LeO.ite (LeO.bind (spec_l6Force.mono _ _ _ _) fun r => LeO.ite (LeO.refl _) (LeO.ite (LeO.refl _) (LeO.ite (LeO.refl _) (LeO.bind (ih _ _ _ _ _) fun q => LeO.ite (ih _ _ _ _ _) (LeO.refl _))))) (LeO.refl _)
/-- 'spec.Solve': the search from nothing known. -/
def spec_Solve.f (k : Nat) (n : Int) (L : List (List Int)) (b : Int) : Option (Int × List Bool × Int × Bool) :=
  (spec_GoodCnf.f k n L).bind fun g => if g = true then (spec_l1In.f b 0 300).bind fun q => if q = true then (trF k n L b 0 (List.replicate (n + 1).toNat 0)).bind fun t => some (t.1, t.2.1, t.2.2, true) else some (0, [], 0, false) else some (0, [], 0, false)
theorem spec_Solve.mono : ∀ a0 a1 a2 k, LeO (spec_Solve.f k a0 a1 a2) (spec_Solve.f (k + 1) a0 a1 a2) := by
  intro a0 a1 a2 k
  unfold spec_Solve.f
  refine LeO.bind (spec_GoodCnf.mono _ _ _) fun _ => LeO.ite (LeO.bind (LeO.refl _) fun _ => LeO.ite (LeO.bind ?_ fun _ => LeO.refl _) (LeO.refl _)) (LeO.refl _)
  exact trF.mono _ _ _ _ _ _
set_option maxHeartbeats 8000000 in
set_option maxRecDepth 100000 in
theorem spec_Solve.calls (k : Nat) (a0_0 : Int) (A0_1 : Option Addr) (c0_1 : Nat) (l0_1 : List (List Int)) (a1 : Int) (r1 : Int) (r2 : List Bool) (r3 : Int) (r4 : Bool) (w : World) (hr0_1 : Kd.C (Kd.slice 3 (Kd.int .i64)) w A0_1 l0_1.length l0_1) (hc0_1 : l0_1.length ≤ c0_1) (h : spec_Solve.f k a0_0 l0_1 a1 = some (r1, r2, r3, r4)) :
    Calls Try.prog 27 #[.agg #[.int .i64 a0_0, .slice A0_1 l0_1.length c0_1], .int .i64 a1] w fun e w' => ∃ v0_ : Value, e = .returned (.tuple #[.int .i64 r1, v0_, .int .i64 r3, .bool r4]) ∧ Kd.R Kd.bool 4 w' w.heap.size (fun _ => True) v0_ r2 ∧ Below w.heap.size w w' := by
  have hu27 := Try.underlying27
  have hu71 := Try.underlying71
  have HR0_1 := Aside0.mk hr0_1
  have HC0_1 := Aside0.mk hc0_1
  clear hr0_1 hc0_1
  have HB := Aside0.mk (Below.refl w.heap.size w)
  unfold spec_Solve.f at h
  obtain ⟨g, hg0, h⟩ := Option.bind_eq_some_iff.mp h
  have A3 := Aside0.mk hg0
  clear hg0
  cases g with
  | false =>
    rw [if_neg (by decide)] at h
    simp only [Option.some.injEq, Prod.mk.injEq] at h
    obtain ⟨rfl, rfl, rfl, rfl⟩ := h
    go_enter Try.func27, Try.ntmps27
    go_wp2_with (first | ((with_reducible refine gate_dst (N := 2) rfl ?_); refine box_event ?hg (N := 2) ?hd (cs := #[.int .i64 a0_0, .slice A0_1 l0_1.length c0_1]) (t := 27) ?hr ?_; (case hd => rfl); (case hg => rfl); (case hr => first | (go_simp; done) | (go_simp; rfl)); intro gb hg w5 hbox hb; have n0_ := Aside0.mk (below_step HB.out hb); have n1_ := Aside0.mk hbox; clear HB; have HB := n0_; have BK := n1_; clear n0_ n1_; clear hb hbox hg; have hcz6_0 : w5.cell? ⟨gb, 0, none⟩ = some (.int .i64 a0_0) := (blk_cell BK.out 0).trans rfl; have hcz6_1 : w5.cell? ⟨gb, 1, none⟩ = some (.slice A0_1 l0_1.length c0_1) := (blk_cell BK.out 1).trans rfl) | ((with_reducible refine gate_callee (f := 10) rfl ?_); refine goesL_ (some 11) rfl rfl Try.func10 (by kernel_rfl) rfl #[.agg #[.int .i64 a0_0, .slice A0_1 l0_1.length c0_1]] rfl qG ?_; (with_reducible refine (spec_GoodCnf.calls k a0_0 _ _ l0_1 false _ ?side1 ?side2 A3.out).mono ?_); (case side1 => exact Kd.C_below HR0_1.out HB.out); (case side2 => exact HC0_1.out); rintro e w7 ⟨rfl, hb⟩; refine ⟨_, rfl, ?_⟩; have n1_ := Aside0.mk (below_step HB.out hb); clear HB; have HB := n1_; clear n1_; clear hb))
    (try simp only [Exit.inBlock, Exit.then])
    refine bodyPost_ret (results_list (rs := [.tmp 4, .tmp 5, .tmp 6, .tmp 7]) rfl (by simp) (.tmp (.tmp (.tmp (.tmp .nil))))) rfl ?_
    exact ⟨.slice none 0 0, rfl, Kd.R_nil _ _ _ _ _, HB.out⟩
  | true =>
    rw [if_pos rfl] at h
    obtain ⟨q, hq0, h⟩ := Option.bind_eq_some_iff.mp h
    have A4 := Aside0.mk hq0
    clear hq0
    cases q with
    | false =>
      rw [if_neg (by decide)] at h
      simp only [Option.some.injEq, Prod.mk.injEq] at h
      obtain ⟨rfl, rfl, rfl, rfl⟩ := h
      go_enter Try.func27, Try.ntmps27
      go_wp2_with (first | ((with_reducible refine gate_dst (N := 2) rfl ?_); refine box_event ?hg (N := 2) ?hd (cs := #[.int .i64 a0_0, .slice A0_1 l0_1.length c0_1]) (t := 27) ?hr ?_; (case hd => rfl); (case hg => rfl); (case hr => first | (go_simp; done) | (go_simp; rfl)); intro gb hg w5 hbox hb; have n0_ := Aside0.mk (below_step HB.out hb); have n1_ := Aside0.mk hbox; clear HB; have HB := n0_; have BK := n1_; clear n0_ n1_; clear hb hbox hg; have hcz6_0 : w5.cell? ⟨gb, 0, none⟩ = some (.int .i64 a0_0) := (blk_cell BK.out 0).trans rfl; have hcz6_1 : w5.cell? ⟨gb, 1, none⟩ = some (.slice A0_1 l0_1.length c0_1) := (blk_cell BK.out 1).trans rfl) | ((with_reducible refine gate_callee (f := 10) rfl ?_); refine goesL_ (some 11) rfl rfl Try.func10 (by kernel_rfl) rfl #[.agg #[.int .i64 a0_0, .slice A0_1 l0_1.length c0_1]] rfl qG ?_; (with_reducible refine (spec_GoodCnf.calls k a0_0 _ _ l0_1 true _ ?side1 ?side2 A3.out).mono ?_); (case side1 => exact Kd.C_below HR0_1.out HB.out); (case side2 => exact HC0_1.out); rintro e w7 ⟨rfl, hb⟩; refine ⟨_, rfl, ?_⟩; have n1_ := Aside0.mk (below_step HB.out hb); clear HB; have HB := n1_; clear n1_; clear hb) | (go_at_call 34; (with_reducible refine (spec_l1In.calls a1 0 300 false _ A4.out).mono ?_); rintro e w8 ⟨rfl, ⟨nd, rfl⟩⟩; have n1_ := Aside0.mk (pw_below_drewN HB.out nd); clear HB; have HB := n1_; clear n1_))
      (try simp only [Exit.inBlock, Exit.then])
      refine bodyPost_ret (results_list (rs := [.tmp 4, .tmp 5, .tmp 6, .tmp 7]) rfl (by simp) (.tmp (.tmp (.tmp (.tmp .nil))))) rfl ?_
      exact ⟨.slice none 0 0, rfl, Kd.R_nil _ _ _ _ _, HB.out⟩
    | true =>
      rw [if_pos rfl] at h
      obtain ⟨⟨t1, t2, t3⟩, ht0, h⟩ := Option.bind_eq_some_iff.mp h
      have hnn : 0 ≤ a0_0 ∧ a0_0 ≤ 1000000 := by
        cases k with
        | zero => simp [trF] at ht0
        | succ k => rw [trF] at ht0; split at ht0; rename_i hh; exact ⟨hh.2.1, hh.2.2⟩; cases ht0
      have A5 := Aside0.mk ht0
      clear ht0
      simp only [Option.some.injEq, Prod.mk.injEq] at h
      obtain ⟨rfl, rfl, rfl, rfl⟩ := h
      have hw1 : wrap64 (a0_0 + 1) = a0_0 + 1 := by unfold wrap64; omega
      have hj1 : IntKind.i64.wrap (a0_0 + 1) = a0_0 + 1 := (i64_w _).trans hw1
      have hp1 : (0 ≤ a0_0 + 1) = True := eq_true (by omega)
      have hp2 : decide (0 ≤ a0_0 + 1) = true := decide_eq_true (by omega)
      have hp3 : ((a0_0 + 1).toNat ≤ 35184372088832) = True := eq_true (by omega)
      have hp4 : decide ((a0_0 + 1).toNat ≤ 35184372088832) = true := decide_eq_true (by omega)
      have hp5 : (a0_0 + 1).toNat ≤ 35184372088832 := by omega
      have hp6 : 0 ≤ a0_0 + 1 := by omega
      go_enter Try.func27, Try.ntmps27
      go_wp2_with (first | ((with_reducible refine gate_dst (N := 2) rfl ?_); refine box_event ?hg (N := 2) ?hd (cs := #[.int .i64 a0_0, .slice A0_1 l0_1.length c0_1]) (t := 27) ?hr ?_; (case hd => rfl); (case hg => rfl); (case hr => first | (go_simp; done) | (go_simp; rfl)); intro gb hg w5 hbox hb; have n0_ := Aside0.mk (below_step HB.out hb); have n1_ := Aside0.mk hbox; clear HB; have HB := n0_; have BK := n1_; clear n0_ n1_; clear hb hbox hg; have hcz6_0 : w5.cell? ⟨gb, 0, none⟩ = some (.int .i64 a0_0) := (blk_cell BK.out 0).trans rfl; have hcz6_1 : w5.cell? ⟨gb, 1, none⟩ = some (.slice A0_1 l0_1.length c0_1) := (blk_cell BK.out 1).trans rfl) | ((with_reducible refine gate_callee (f := 10) rfl ?_); refine goesL_ (some 11) rfl rfl Try.func10 (by kernel_rfl) rfl #[.agg #[.int .i64 a0_0, .slice A0_1 l0_1.length c0_1]] rfl qG ?_; (with_reducible refine (spec_GoodCnf.calls k a0_0 _ _ l0_1 true _ ?side1 ?side2 A3.out).mono ?_); (case side1 => exact Kd.C_below HR0_1.out HB.out); (case side2 => exact HC0_1.out); rintro e w7 ⟨rfl, hb⟩; refine ⟨_, rfl, ?_⟩; have n0_ := Aside0.mk (blk_below (g := gb) (o := .cells #[.int .i64 a0_0, .slice A0_1 l0_1.length c0_1] 27 (0, 0)) BK.out hb); have n1_ := Aside0.mk (below_step HB.out hb); clear HB BK; have BK := n0_; have HB := n1_; clear n0_ n1_; clear hb; have hcz7_0 : w7.cell? ⟨gb, 0, none⟩ = some (.int .i64 a0_0) := (blk_cell BK.out 0).trans rfl; have hcz7_1 : w7.cell? ⟨gb, 1, none⟩ = some (.slice A0_1 l0_1.length c0_1) := (blk_cell BK.out 1).trans rfl) | (go_at_call 34; (with_reducible refine (spec_l1In.calls a1 0 300 true _ A4.out).mono ?_); rintro e w8 ⟨rfl, ⟨nd, rfl⟩⟩; have n1_ := Aside0.mk (pw_below_drewN HB.out nd); clear HB; have HB := n1_; clear n1_) | ((with_reducible refine gate_dst (N := 21) rfl ?_); refine box_event ?hg (N := 21) ?hd (cs := #[.int .i64 a0_0, .slice A0_1 l0_1.length c0_1, .int .i64 a1, .int .i64 0, .slice none 0 0]) (t := 71) ?hr ?_; (case hd => rfl); (case hg => rfl); (case hr => first | (go_simp; done) | (go_simp; rfl)); intro gs hg w9 hbox hb; have n0_ := Aside0.mk (below_step HB.out hb); have n1_ := Aside0.mk hbox; have n2_ := Aside0.mk (show w.heap.size ≤ gs by rw [hg]; exact below_size HB.out); have n3_ := Aside0.mk (blk_below (g := gb) (o := .cells #[.int .i64 a0_0, .slice A0_1 l0_1.length c0_1] 27 (0, 0)) (blk_drewN BK.out _) hb); clear HB BK; have HB := n0_; have HG := n1_; have HGE := n2_; have BK := n3_; clear n0_ n1_ n2_ n3_; clear hb hbox hg; have hcz9_0 : w9.cell? ⟨gb, 0, none⟩ = some (.int .i64 a0_0) := (blk_cell BK.out 0).trans rfl) | ((with_reducible refine gate_dst (N := 26) rfl ?_); (try (refine gate_guard (by rfl) ?_; dsimp only)); refine Kd.R_make (Kd.int .i64) _ 3 rfl (N := 26) rfl 39 _ _ rfl (a0_0 + 1) rfl rfl Try.underlying39 (.int .i64 0) 8 info3 rfl (by decide) (by omega) 0 (ok := fun _ => True) (okp := fun _ => True) rfl (fun _ hk => hk) trivial hp6 (Nat.le_trans (Nat.mul_le_mul_right _ hp5) (by omega)) (Below.refl _ _) (Nat.le_refl _) ?_; intro vz w10 hoz hb hg_ hnew_; clear hg_ hnew_; have n0_ := Aside0.mk (blk_below HG.out hb); have n1_ := Aside0.mk (Kd.R_lower hoz (below_size HB.out)); have n2_ := Aside0.mk (below_step HB.out hb); clear HG HB; have HG := n0_; have HZ := n1_; have HB := n2_; clear n0_ n1_ n2_ hb hoz) | ((with_reducible refine gate_callee (f := 49) rfl ?_); refine goesL_ (some 27) rfl rfl Try.func49 (by kernel_rfl) rfl #[.pointer (some ⟨gs, 0, none⟩), vz] rfl qG ?_; (refine (trCalls k gs a0_0 A0_1 c0_1 l0_1 a1 0 vz _ t1 t2 t3 w _ HB.out HG.out HGE.out HR0_1.out HC0_1.out HZ.out A5.out).mono ?_); rintro e w11 ⟨rfl, ⟨v, hgv, hrv, _⟩, hb, hk⟩; refine ⟨_, rfl, ?_⟩; have n0_ := Aside0.mk hgv; have n1_ := Aside0.mk hrv; have n2_ := Aside0.mk hb; have hcs_3 : w11.cell? ⟨gs, 3, none⟩ = some (.int .i64 t3) := (blk_cell hgv 3).trans rfl; have hcs_4 : w11.cell? ⟨gs, 4, none⟩ = some v := (blk_cell hgv 4).trans rfl; clear HG HB HZ hgv hrv hb hk; have HG := n0_; have HO := n1_; have HB := n2_; clear n0_ n1_ n2_))
      go_quiet (fail)
      try go_wp2
      (try simp only [Exit.inBlock, Exit.then])
      refine bodyPost_ret (results_list (rs := [.tmp 4, .tmp 5, .tmp 6, .tmp 7]) rfl (by simp) (.tmp (.tmp (.tmp (.tmp .nil))))) rfl ?_
      exact ⟨v, rfl, HO.out, pw_below_drewN HB.out _⟩

end Go.Proofs.Ytdmngodinbelfaa.X
