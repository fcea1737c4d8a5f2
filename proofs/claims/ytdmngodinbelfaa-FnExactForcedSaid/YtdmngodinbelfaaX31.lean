/- Each Go function as a Lean function, with the proof that the call comes to just its answer; or a law's row out of its pure statement. Conditions: the arguments are of their kinds. Written by this session's program wip/xp/xp.sh. -/
import Derived.Test.YtdmngodinbelfaaX0
import Derived.Test.YtdmngodinbelfaaX28
namespace Go.Proofs.Ytdmngodinbelfaa.X
open Go.RowKit Go.Proofs.YtdmngodinbelfaaW.PrintWords Go.Proofs.YtdmngodinbelfaaW.PrintLast Go.Proofs.YtdmngodinbelfaaW.PrintMore
attribute [local go_sem] max2_int min2_int max_two min_two max_three min_three max_four min_four   -- for this text's walks alone
set_option linter.unusedVariables false
set_option linter.unusedSimpArgs false

-- HAND
/-! ### laws_markCnf: function 24 -/
/-- A row of whole numbers that may be marked. -/
def MInts (w : World) (P : Nat → Prop) (v : Value) (n : Nat) : Prop := MRow w 3 (n * 1) P (fun _ => isInt .i64) v n
theorem MInts.of_R {base : Nat} {w : World} {P : Nat → Prop} {v : Value} {l : List Int} (h : Kd.R (Kd.int .i64) 3 w base P v l) : MInts w P v l.length :=
  MRow.of_R 0 h (fun _ => isInt .i64) (fun i hi c hc hM q x hx => by
    obtain rfl := hM
    rcases q with _ | q
    · injection hx with hx
      subst hx
      exact ⟨_, rfl⟩
    · cases hx)
set_option maxHeartbeats 8000000 in
set_option maxRecDepth 100000 in
theorem markInts_any (P : Nat → Prop) (v : Value) (n : Nat) (a : Int) (w : World) (h : MInts w P v n) (ha : 0 ≤ a) (hn : a + (n : Int) < 4611686018427387904) :
    Calls Try.prog 25 #[v, .int .i64 a] w fun e w' => e = .returned (.int .i64 (a + (n : Int))) ∧ MK w w' P := by
  rcases h with ⟨h0, A, c, hv⟩ | ⟨g, c, cs, hv, hb, hp, hq⟩
  · subst h0
    subst hv
    have e0 : a + ((0 : Nat) : Int) = a := by omega
    rw [e0]
    clear hn e0
    go_enter Try.func25, Try.ntmps25
    go_wp2
    refine wp_loop_rounds 1 ?_
    rw [rounds_succ]
    go_wp2
    go_ret
    exact ⟨rfl, by repeat (first | exact MK.refl _ _ | apply MK.drewN | apply MK.drew)⟩
  · subst hv
    have HB0 := Aside0.mk hb
    have HP := Aside0.mk hp
    have HQ := Aside0.mk hq
    have HN := Aside0.mk hn
    have HA := Aside0.mk ha
    clear hb hp hq hn ha
    go_enter Try.func25, Try.ntmps25
    go_wp2
    go_loopg [1, 5] n (fun gg v1 v5 wr => ∃ i : Nat, i ≤ n ∧ n - i ≤ gg ∧ v1 = .int .i64 (a + (i : Int)) ∧ v5 = .int .i64 i ∧ Aside0 (MK w wr P))
    case atStart => exact ⟨0, Nat.zero_le _, by omega, by simp, rfl, ⟨by repeat (first | exact MK.refl _ _ | apply MK.drewN | apply MK.drew)⟩⟩
    case round =>
      obtain ⟨i, hi, hg, rfl, rfl, HM⟩ := hrel
      by_cases hlt : i < n
      · have hltz : (i : Int) < (n : Int) := by omega
        obtain ⟨cs', hb', hc'⟩ := HM.out.rows g cs _ _ HB0.out
        obtain ⟨x0, hx0, qx0⟩ := HQ.out i (by omega)
        obtain ⟨y0, hy0, sy0⟩ := hc' _ _ hx0
        obtain ⟨m0, rfl⟩ := isInt.move qx0 sy0
        clear hx0 qx0 sy0 hc'
        have hc0 : wr.cell? ⟨g, i, none⟩ = some (.int .i64 m0) := (blk_cell hb' _).trans hy0
        have hf0 : wr.frozen? ⟨g, i, none⟩ = false := blk_frozen hb' _
        have M1 := HM.out.set hb' hy0 HP.out (a + (i : Int))
        have e2 : wrap64 (a + (i : Int) + 1) = a + ((i + 1 : Nat) : Int) := by have := HA.out; have := HN.out; unfold wrap64; omega
        have e3 : wrap64 ((i : Int) + 1) = ((i + 1 : Nat) : Int) := by have := HA.out; have := HN.out; unfold wrap64; omega
        have HM2 := Aside0.mk M1
        have E2 := Aside0.mk e2
        have E3 := Aside0.mk e3
        clear M1 hb' hy0 e2 e3
        have p5 := eq_true (show (0 : Int) ≤ (i : Int) from Int.natCast_nonneg _)
        have q5 := eq_true hltz
        go_wp2
        go_roundg (n - (i + 1))
        case measure => omega
        case rel => exact ⟨i + 1, by omega, by omega, by first | exact congrArg _ E2.out | (rw [E2.out]), by first | exact congrArg _ E3.out | (rw [E3.out]), by repeat (first | exact HM2 | apply MK.drewN | apply MK.drew)⟩
      · have hltz : ¬ (i : Int) < (n : Int) := by omega
        obtain rfl : i = n := by omega
        go_wp2
        go_ret
        exact ⟨rfl, by repeat (first | exact HM.out | apply MK.drewN | apply MK.drew)⟩
theorem isForm {w : World} {P : Nat → Prop} {v : Value} {n : Nat} (h : MInts w P v n) : ∃ A c, v = .slice A n c := by
  rcases h with ⟨rfl, A, c, hv⟩ | ⟨g, c, cs, hv, _⟩
  · exact ⟨A, c, hv⟩
  · exact ⟨_, c, hv⟩
/-- How many cells are marked. -/
def isCnt (l : List (List Int)) : Nat := (l.map fun x => x.length).sum
theorem isCnt_take (l : List (List Int)) (i : Nat) (h : i < l.length) : isCnt (l.take (i + 1)) = isCnt (l.take i) + l[i].length := by
  unfold isCnt
  rw [List.take_add_one, List.getElem?_eq_getElem h, Option.toList_some, List.map_append, List.sum_append]
  simp
theorem isCnt_le (l : List (List Int)) (i : Nat) : isCnt (l.take i) ≤ isCnt l := by
  conv => rhs; rw [← List.take_append_drop i l]
  unfold isCnt
  rw [List.map_append, List.sum_append]
  omega
def QIS (w : World) (P : Nat → Prop) (l : List (List Int)) (j : Nat) (x : Value) : Prop := MInts w P x (l.getD j []).length
theorem QIS.move {w : World} {P : Nat → Prop} {l : List (List Int)} (j : Nat) (x x' : Value) (h : QIS w P l j x) (hs : sameInt x x') : QIS w P l j x' := by
  unfold QIS at *
  obtain ⟨A, c, rfl⟩ := isForm h
  obtain rfl := slice_move hs
  exact h
/-- A row of rows of whole numbers that may be marked. -/
def MIntSS (w : World) (P : Nat → Prop) (v : Value) (l : List (List Int)) : Prop := MRow w 39 (l.length * 1) P (QIS w P l) v l.length
theorem MIntSS.of_R {base : Nat} {w : World} {P : Nat → Prop} {v : Value} {l : List (List Int)} (h : Kd.R (Kd.slice 3 (Kd.int .i64)) 39 w base P v l) : MIntSS w P v l :=
  MRow.of_R [] h (QIS w P l) (fun i hi c hc hM q x hx => by
    obtain ⟨v0, rfl, hv0⟩ := hM
    rcases q with _ | q
    · injection hx with hx
      subst hx
      show QIS w P l (i * 1 + 0) _
      unfold QIS
      rw [show i * 1 + 0 = i by omega]
      exact MInts.of_R hv0
    · cases hx)
set_option maxHeartbeats 8000000 in
set_option maxRecDepth 100000 in
theorem markIntSS_any (P : Nat → Prop) (v : Value) (l : List (List Int)) (a : Int) (w W : World) (h : MIntSS w P v l) (hW : MK w W P) (ha : 0 ≤ a) (hn : a + (isCnt l : Int) < 4611686018427387904) (hl : l.length < 4611686018427387904) :
    Calls Try.prog 48 #[v, .int .i64 a] W fun e w' => e = .returned (.int .i64 (a + (isCnt l : Int))) ∧ MK w w' P := by
  rcases h with ⟨h0, A, c, hv⟩ | ⟨g, c, cs, hv, hb, hp, hq⟩
  · obtain rfl : l = [] := List.eq_nil_of_length_eq_zero h0
    subst hv
    have e0 : a + (isCnt [] : Int) = a := by show a + ((0 : Nat) : Int) = a; omega
    rw [e0]
    have HM := Aside0.mk hW
    clear hn e0 h0 hl hW
    go_enter Try.func48, Try.ntmps48
    go_wp2
    refine wp_loop_rounds 1 ?_
    rw [rounds_succ]
    go_wp2
    go_ret
    exact ⟨rfl, by repeat (first | exact HM.out | apply MK.drewN | apply MK.drew)⟩
  · subst hv
    have HB0 := Aside0.mk hb
    have HQ := Aside0.mk hq
    have HN := Aside0.mk hn
    have HA := Aside0.mk ha
    have HL := Aside0.mk hl
    have HM0 := Aside0.mk hW
    clear hb hp hq hn ha hl hW
    go_enter Try.func48, Try.ntmps48
    go_wp2
    go_loopg [1, 5] l.length (fun gg v1 v5 wr => ∃ i : Nat, i ≤ l.length ∧ l.length - i ≤ gg ∧ v1 = .int .i64 (a + (isCnt (l.take i) : Int)) ∧ v5 = .int .i64 i ∧ Aside0 (MK w wr P))
    case atStart => exact ⟨0, Nat.zero_le _, by omega, by show _ = Value.int .i64 (a + ((0 : Nat) : Int)); simp, rfl, ⟨by repeat (first | exact HM0.out | apply MK.drewN | apply MK.drew)⟩⟩
    case round =>
      clear HM0
      obtain ⟨i, hi, hg, rfl, rfl, HM⟩ := hrel
      by_cases hlt : i < l.length
      · have hltz : (i : Int) < (l.length : Int) := by omega
        have hcn := isCnt_take l i hlt
        have hcl := isCnt_le l (i + 1)
        obtain ⟨q, hqq⟩ : ∃ q, a + (isCnt (l.take i) : Int) = q := ⟨_, rfl⟩
        have hq0 : 0 ≤ q := by have := HA.out; omega
        have hq1 : q + (l[i].length : Int) < 4611686018427387904 := by have := HN.out; omega
        have hq2 : q + (l[i].length : Int) = a + (isCnt (l.take (i + 1)) : Int) := by omega
        rw [hqq]
        clear hqq hcn hcl
        obtain ⟨cs', hb', hc'⟩ := HM.out.rows g cs _ _ HB0.out
        obtain ⟨x0, hx0, qx0⟩ := HQ.out i (by omega)
        obtain ⟨y0, hy0, sy0⟩ := hc' _ _ hx0
        have qx0' := QIS.move _ _ _ qx0 sy0
        clear qx0 sy0 hx0 hc'
        unfold QIS at qx0'
        rw [List.getD_eq_getElem?_getD, List.getElem?_eq_getElem hlt, Option.getD_some] at qx0'
        obtain ⟨wn, hwn⟩ : ∃ n, l[i].length = n := ⟨_, rfl⟩
        rw [hwn] at hq1 hq2 qx0'
        clear hwn
        obtain ⟨A0, c0, rfl⟩ := isForm qx0'
        have hc0 : wr.cell? ⟨g, i, none⟩ = some (.slice A0 wn c0) := (blk_cell hb' _).trans hy0
        have e3 : wrap64 ((i : Int) + 1) = ((i + 1 : Nat) : Int) := by have := HL.out; unfold wrap64; omega
        have QN := Aside0.mk qx0'
        have HQ1 := Aside0.mk hq1
        have HQ2 := Aside0.mk hq2
        have HQ0 := Aside0.mk hq0
        have E3 := Aside0.mk e3
        clear hb' hy0 e3 hq0 hq1 hq2 qx0'
        have p5 := eq_true (show (0 : Int) ≤ (i : Int) from Int.natCast_nonneg _)
        have q5 := eq_true hltz
        go_wp2_with (go_at_call 25; (refine (markInts_any P _ wn q _ ?side1 ?side2 ?side3).mono ?_); (case side1 => exact MRow.move QN.out (by repeat (first | exact HM.out | apply MK.drewN | apply MK.drew)) (fun _ _ _ h hs => isInt.move h hs)); (case side2 => exact HQ0.out); (case side3 => exact HQ1.out); rintro e w2 ⟨rfl, hm⟩; have HM2 := Aside0.mk (HM.out.trans hm); clear hm)
        go_roundg (l.length - (i + 1))
        case measure => omega
        case rel => exact ⟨i + 1, by omega, by omega, by first | exact congrArg _ HQ2.out | (rw [HQ2.out]), by first | exact congrArg _ E3.out | (rw [E3.out]), by repeat (first | exact HM2 | apply MK.drewN | apply MK.drew)⟩
      · have hltz : ¬ (i : Int) < (l.length : Int) := by omega
        obtain rfl : i = l.length := by omega
        rw [List.take_length]
        go_wp2
        go_ret
        exact ⟨rfl, by repeat (first | exact HM.out | apply MK.drewN | apply MK.drew)⟩
/-- A flat row whose block is none of those that may have turned. -/
theorem R_keepP {α : Type} {d : Kd α} {e base : Nat} {ok S : Nat → Prop} {W W2 : World} {v : Value} {xs : List α} (hE : d.E = []) (h : d.R e W base ok v xs) (hk : Kept W W2 S) (hne : ∀ k, v.ownBlock = some k → ¬ S k) : d.R e W2 base ok v xs :=
  Kd.R_reok hE (Kd.R_keptB (Kd.R_tight hE h) hk (fun k e_ => hne k e_.symm)) (fun k e_ => h.1 k e_)
/-- A block of rows or of whole numbers. -/
def mkI (w : World) (k : Nat) : Prop := ∃ q cells, q ∈ [39, 3] ∧ w.heap[k]? = some (.cells cells q (0, 0))
theorem blk_keepP {P : Nat → Prop} {W W2 : World} {B g : Nat} {cs : Array Value} {t : TypeId} (h : W.heap[g]? = some (.cells cs t (0, 0))) (hk : Kept W W2 (fun k => P k ∧ B ≤ k ∧ mkI W k)) (ht : ¬ t ∈ [39, 3]) : W2.heap[g]? = some (.cells cs t (0, 0)) :=
  blk_kept h hk (fun hs => by
    obtain ⟨_, _, q', cells', hq', hc'⟩ := hs
    rw [h] at hc'
    injection hc' with hc'
    injection hc' with _ h2 _
    exact ht (by rw [h2]; exact hq'))
/-- A flat row of another type. -/
theorem R_keepI {α : Type} {d : Kd α} {e base B : Nat} {ok P : Nat → Prop} {W W2 : World} {v : Value} {xs : List α} (h : d.R e W base ok v xs) (hk : Kept W W2 (fun k => P k ∧ B ≤ k ∧ mkI W k)) (ht : ∀ q, q ∈ e :: d.E → ¬ q ∈ [39, 3]) : d.R e W2 base ok v xs :=
  Kd.R_mono (Kd.R_keptB (Kd.R_bound h) hk (fun k hk hs => by
    obtain ⟨_, _, _, q, hq, cells, hc⟩ := hk
    obtain ⟨_, _, q', cells', hq', hc'⟩ := hs
    rw [hc] at hc'
    injection hc' with hc'
    injection hc' with _ h2 _
    exact ht q hq (by rw [h2]; exact hq'))) (fun _ hk => hk.1.1)
/-- 'markCnf': the number behind the last. -/
def laws_markCnf.f (_ : Int) (l : List (List Int)) (a : Int) : Option Int :=
  if 0 ≤ a ∧ a + (isCnt l : Int) < 4611686018427387904 ∧ l.length < 4611686018427387904 then some (a + (isCnt l : Int)) else none
set_option maxHeartbeats 8000000 in
set_option maxRecDepth 100000 in
theorem laws_markCnf.calls (a0 : Int) (P : Nat → Prop) (u : Value) (l : List (List Int)) (a r1 : Int) (w0 w : World) (hB : Below w0.heap.size w0 w)
    (ho : Kd.R (Kd.slice 3 (Kd.int .i64)) 39 w w0.heap.size P u l) (h : laws_markCnf.f a0 l a = some r1) :
    Calls Try.prog 24 #[.agg #[.int .i64 a0, u], .int .i64 a] w fun e w' => e = .returned (.int .i64 r1) ∧ Below w0.heap.size w0 w' ∧ Kept w w' (fun k => P k ∧ w0.heap.size ≤ k ∧ mkI w k) := by
  unfold laws_markCnf.f at h
  split at h
  case isFalse => cases h
  rename_i hc
  obtain ⟨h0, h1, h2⟩ := hc
  obtain rfl := Option.some.inj h
  have r2 : Kd.R (Kd.slice 3 (Kd.int .i64)) 39 w w0.heap.size (fun k => P k ∧ w0.heap.size ≤ k ∧ mkI w k) u l := Kd.R_mono (Kd.R_bound ho) (fun k hk => by
    obtain ⟨hp, hb, _, q, hq, cells, hc⟩ := hk
    refine ⟨hp, hb, q, cells, ?_, hc⟩
    rcases List.mem_cons.mp hq with e | e
    · rw [e]; exact List.mem_cons_self
    · have e2 : q ∈ [3] := e
      have : q = 3 := by simpa using e2
      rw [this]; decide)
  have hP : ∀ k, (P k ∧ w0.heap.size ≤ k ∧ mkI w k) → w0.heap.size ≤ k := fun k hk => hk.2.1
  obtain ⟨T, hT⟩ : ∃ T : Nat → Prop, (fun k => P k ∧ w0.heap.size ≤ k ∧ mkI w k) = T := ⟨_, rfl⟩
  have hPT : ∀ k, T k → w0.heap.size ≤ k := fun k hk => by rw [← hT] at hk; exact hP k hk
  rw [hT] at r2 ⊢
  have HI := Aside0.mk (MIntSS.of_R r2)
  obtain ⟨Au, cu, rfl⟩ := Kd.R_slice ho
  have HB := Aside0.mk hB
  have HX := Aside0.mk (And.intro h0 (And.intro h1 h2))
  have HPT := Aside0.mk hPT
  clear ho r2 hB h hP hPT hT h0 h1 h2
  go_enter Try.func24, Try.ntmps24
  go_wp2_with (go_at_call 48; (refine (markIntSS_any T _ l a w _ HI.out ?side1 HX.out.1 HX.out.2.1 HX.out.2.2).mono ?_); (case side1 => exact MK.of_below _ (by repeat (first | exact Below.refl _ _ | apply below_alloc))); rintro e w2 ⟨rfl, hm⟩; have HM2 := Aside0.mk hm; clear hm)
  go_ret
  exact ⟨rfl, HM2.out.below HB.out HPT.out, HM2.out.kept⟩


/-! ### laws_heldIntS: function 26 -/
def laws_heldIntS.l0 : Nat → List Int → Int → Int → Option (Int)
  | 0, _, _, _ => none
  | k + 1, x0, x1, x5 => if x5 < (x0.length : Int) then (if 0 ≤ x5 then (if (rd x0 x5) = x1 then (laws_heldIntS.l0 k x0 (wrap64 (x1 + 1)) (wrap64 (x5 + 1))) else (some (-1))) else (none)) else (some x1)
def laws_heldIntS.f (k : Nat) (l0 : List Int) (a1 : Int) : Option (Int) := laws_heldIntS.l0 k l0 a1 0
theorem laws_heldIntS.mono_l : ∀ k, (∀ y0 y1 y2, LeO (laws_heldIntS.l0 k y0 y1 y2) (laws_heldIntS.l0 (k + 1) y0 y1 y2))
  | 0 => fun _ _ _ r h => by simp [laws_heldIntS.l0] at h
  | k + 1 => by
    have ih0 := laws_heldIntS.mono_l k
    · intro y0 y1 y2
      unfold laws_heldIntS.l0
      repeat' first
      | (with_reducible exact ih0 _ _ _)
      | (with_reducible exact LeO.refl _)
      | (with_reducible exact LeO.none _)
      | (with_reducible refine LeO.ite ?_ ?_)
      | (with_reducible refine LeO.bind ?_ (fun _ => ?_))
      | exact ih0 _ _ _
      | exact LeO.none _
      | refine LeO.ite ?_ ?_
      | refine LeO.bind ?_ (fun _ => ?_)
theorem laws_heldIntS.mono : ∀ a0 a1 k, LeO (laws_heldIntS.f k a0 a1) (laws_heldIntS.f (k + 1) a0 a1) := by
  intro a0 a1 k
  have ih0 := laws_heldIntS.mono_l k
  unfold laws_heldIntS.f
  repeat' first
      | (with_reducible exact ih0 _ _ _)
      | (with_reducible exact LeO.refl _)
      | (with_reducible exact LeO.none _)
      | (with_reducible refine LeO.ite ?_ ?_)
      | (with_reducible refine LeO.bind ?_ (fun _ => ?_))
      | exact ih0 _ _ _
      | exact LeO.none _
      | refine LeO.ite ?_ ?_
      | refine LeO.bind ?_ (fun _ => ?_)
set_option maxHeartbeats 8000000 in
set_option maxRecDepth 100000 in
theorem laws_heldIntS.calls (k : Nat) (A0 : Option Addr) (c0 : Nat) (l0 : List Int) (a1 : Int) (r : Int) (w : World) (hr0 : Kd.C (Kd.int .i64) w A0 l0.length l0) (hc0 : l0.length ≤ c0) (h : laws_heldIntS.f k l0 a1 = some r) :
    Calls Try.prog 26 #[.slice A0 l0.length c0, .int .i64 a1] w fun e w' => e = .returned (.int .i64 r) ∧ Drawn0 w w' := by
  have HR0 := Aside0.mk hr0
  have HC0 := Aside0.mk hc0
  clear hr0 hc0
  have H : (laws_heldIntS.l0 k l0 a1 0) = some r := h
  clear h
  have H' := Aside0.mk H
  clear H
  go_enter Try.func26, Try.ntmps26
  go_wp2
  go_loopg [1, 5] k (fun kq v1 v5 w' => ∃ (x1_1 : Int) (x5_1 : Int), v1 = .int .i64 x1_1 ∧ v5 = .int .i64 x5_1 ∧ Aside0 (laws_heldIntS.l0 kq l0 x1_1 x5_1 = some r) ∧ Aside0 (kq ≤ k) ∧ Drawn0 w w')
  case atStart => exact ⟨(a1), (0), qS, qS, H', ⟨Nat.le_refl _⟩, by repeat (first | exact Drawn0.refl _ | apply Drawn0.step)⟩
  case round =>
    clear H'
    try clear c2
    try clear p2
    obtain ⟨x1_1, x5_1, rfl, rfl, HA, HK1, ⟨m1, rfl⟩⟩ := hrel
    cases gk with
    | zero => exact absurd HA.out (by simp [laws_heldIntS.l0])
    | succ k1 =>
      have H := HA.out
      clear HA
      simp only [laws_heldIntS.l0] at H
      by_cases c3 : x5_1 < (l0.length : Int)
      · rw [if_pos c3] at H
        have c3b0 : decide (x5_1 < (l0.length : Int)) = true := decide_eq_true c3
        clear c3
        by_cases c4 : 0 ≤ x5_1
        · rw [if_pos c4] at H
          have c4b0 : decide (0 ≤ x5_1) = true := decide_eq_true c4
          clear c4
          by_cases c5 : (rd l0 x5_1) = x1_1
          · rw [if_pos c5] at H
            have c5b0 : ((rd l0 x5_1) == x1_1) = true := beq_iff_eq.mpr c5
            have c5b1 : ((rd l0 x5_1) != x1_1) = false := bne_eq_false_iff_eq.mpr c5
            clear c5
            have H' := Aside0.mk H
            clear H
            have p302 : 0 ≤ (x5_1 : Int) := qD
            have q302 : x5_1 < (l0.length : Int) := qD
            obtain ⟨ad302, e302, hx302_0⟩ := Kd.at_int HR0.out x5_1 p302 q302
            cases e302
            replace p302 := eq_true p302
            replace q302 := eq_true q302
            go_wp2
            go_roundg k1
            case measure => have := HK1.out; omega
            case rel => exact ⟨(wrap64 (x1_1 + 1)), (wrap64 (x5_1 + 1)), qS, qS, H', ⟨by have := HK1.out; omega⟩, by repeat (first | exact Drawn0.refl _ | apply Drawn0.step)⟩
          · rw [if_neg c5] at H
            have c5b0 : ((rd l0 x5_1) == x1_1) = false := beq_eq_false_iff_ne.mpr c5
            have c5b1 : ((rd l0 x5_1) != x1_1) = true := bne_iff_ne.mpr c5
            obtain rfl := Option.some.inj H
            have p302 : 0 ≤ (x5_1 : Int) := qD
            have q302 : x5_1 < (l0.length : Int) := qD
            obtain ⟨ad302, e302, hx302_0⟩ := Kd.at_int HR0.out x5_1 p302 q302
            cases e302
            replace p302 := eq_true p302
            replace q302 := eq_true q302
            go_wp2
            go_ret
            exact ⟨by first | rfl | (simp; done) | (simp [*]; done), by repeat (first | exact Drawn0.refl _ | apply Drawn0.step)⟩
        · rw [if_neg c4] at H
          exact absurd H (by simp)
      · rw [if_neg c3] at H
        have c3b0 : decide (x5_1 < (l0.length : Int)) = false := decide_eq_false c3
        clear c3
        obtain rfl := Option.some.inj H
        go_wp2
        go_ret
        exact ⟨by first | rfl | (simp; done) | (simp [*]; done), by repeat (first | exact Drawn0.refl _ | apply Drawn0.step)⟩

end Go.Proofs.Ytdmngodinbelfaa.X
