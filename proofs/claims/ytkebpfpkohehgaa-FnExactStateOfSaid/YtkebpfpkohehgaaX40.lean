/- Go functions as Lean functions, each with the proof that its call comes to just its answer. Conditions: the arguments are of their kinds. -/
import Derived.Test.YtkebpfpkohehgaaX0
import Derived.Test.YtkebpfpkohehgaaX36
namespace Go.Proofs.Ytkebpfpkohehgaa.X
open Go.RowKit Go.Proofs.YtkebpfpkohehgaaW.PrintWords Go.Proofs.YtkebpfpkohehgaaW.PrintLast Go.Proofs.YtkebpfpkohehgaaW.PrintMore
attribute [local go_sem] max2_int min2_int max_two min_two max_three min_three max_four min_four   -- for this text's walks alone
set_option linter.unusedVariables false
set_option linter.unusedSimpArgs false

-- HAND
/-! ### laws_markProgram: function 20 -/
/-- How many cells are marked. -/
def cntOf {α : Type} (f : α → Nat) (l : List α) : Nat := (l.map f).sum
theorem cntOf_take {α : Type} (f : α → Nat) (l : List α) (i : Nat) (h : i < l.length) : cntOf f (l.take (i + 1)) = cntOf f (l.take i) + f l[i] := by
 unfold cntOf
 rw [List.take_add_one, List.getElem?_eq_getElem h, Option.toList_some, List.map_append, List.sum_append]
 simp
theorem cntOf_le {α : Type} (f : α → Nat) (l : List α) (i : Nat) : cntOf f (l.take i) ≤ cntOf f l := by
 conv => rhs; rw [← List.take_append_drop i l]
 unfold cntOf
 rw [List.map_append, List.sum_append]
 omega
def cntCh (l : List S80) : Nat := cntOf (fun x => 1 + 2 * x.f1.length) l
def cntCm (l : List S54) : Nat := cntOf (fun x => 2 * x.f0.length + cntCh x.f1) l
theorem MNode.form {w : World} {P : Nat → Prop} {v : Value} {n : Nat} (h : MNode w P v n) : ∃ A c, v = .slice A n c := by
 rcases h with ⟨rfl, A, c, hv⟩ | ⟨g, c, cs, hv, _⟩
 ·exact ⟨A, c, hv⟩
 ·exact ⟨_, c, hv⟩
def QChange (w : World) (P : Nat → Prop) (l : List S80) (j : Nat) (x : Value) : Prop := if j % 2 = 0 then isInt .i64 x else MNode w P x (l.getD (j / 2) z80).f1.length
theorem QChange.move {w : World} {P : Nat → Prop} {l : List S80} (j : Nat) (x x' : Value) (h : QChange w P l j x) (hs : sameInt x x') : QChange w P l j x' := by
 unfold QChange at *
 split
 ·rename_i hj; rw [if_pos hj] at h; exact h.move hs
 ·rename_i hj
  rw [if_neg hj] at h
  obtain ⟨A, c, rfl⟩ := h.form
  obtain rfl := slice_move hs
  exact h
/-- A row of changes that may be marked. -/
def MChange (w : World) (P : Nat → Prop) (v : Value) (l : List S80) : Prop := MRow w 80 (l.length * 2) P (QChange w P l) v l.length
theorem MChange.of_R {base : Nat} {w : World} {P : Nat → Prop} {v : Value} {l : List S80} (h : Kd.R k80 80 w base P v l) : MChange w P v l :=
 MRow.of_R z80 h (QChange w P l) (fun i hi c hc hM q x hx => by
  obtain ⟨v0, rfl, hv0⟩ := k80_openM hM
  rcases q with _ | _ | q
  ·injection hx with hx
   subst hx
   show QChange w P l (i * 2 + 0) _
   unfold QChange
   rw [if_pos (by omega)]
   exact ⟨_, rfl⟩
  ·injection hx with hx
   subst hx
   show QChange w P l (i * 2 + 1) _
   unfold QChange
   rw [if_neg (by omega), show (i * 2 + 1) / 2 = i by omega]
   exact MNode.of_R hv0
  ·cases hx)
theorem MChange.form {w : World} {P : Nat → Prop} {v : Value} {l : List S80} (h : MChange w P v l) : ∃ A c, v = .slice A l.length c := by
 rcases h with ⟨h0, A, c, hv⟩ | ⟨g, c, cs, hv, _⟩
 ·exact ⟨A, c, by rw [hv, h0]⟩
 ·exact ⟨_, c, hv⟩
set_option maxHeartbeats 8000000 in
set_option maxRecDepth 100000 in
theorem markChange_any (P : Nat → Prop) (v : Value) (l : List S80) (a : Int) (w W : World) (h : MChange w P v l) (hW : MK w W P) (ha : 0 ≤ a) (hn : a + (cntCh l : Int) < 4611686018427387904) (hl : l.length < 4611686018427387904) :
  Calls Try.prog 62 #[v, .int .i64 a] W fun e w' => e = .returned (.int .i64 (a + (cntCh l : Int))) ∧ MK w w' P := by
 rcases h with ⟨h0, A, c, hv⟩ | ⟨g, c, cs, hv, hb, hp, hq⟩
 ·obtain rfl : l = [] := List.eq_nil_of_length_eq_zero h0
  subst hv
  have e0 : a + (cntCh [] : Int) = a := by show a + ((0 : Nat) : Int) = a; omega
  rw [e0]
  have HM := Aside0.mk hW
  clear hn e0 h0 hl hW
  go_enter Try.func62, Try.ntmps62
  go_wp2
  refine wp_loop_rounds 1 ?_
  rw [rounds_succ]
  go_wp2
  go_ret
  exact ⟨rfl, by repeat (first | exact HM.out | apply MK.drewN | apply MK.drew)⟩
 ·subst hv
  have HB0 := Aside0.mk hb
  have HP := Aside0.mk hp
  have HQ := Aside0.mk hq
  have HN := Aside0.mk hn
  have HA := Aside0.mk ha
  have HL := Aside0.mk hl
  have HM0 := Aside0.mk hW
  clear hb hp hq hn ha hl hW
  go_enter Try.func62, Try.ntmps62
  go_wp2
  go_loopg [1, 5] l.length (fun gg v1 v5 wr => ∃ i : Nat, i ≤ l.length ∧ l.length - i ≤ gg ∧ v1 = .int .i64 (a + (cntCh (l.take i) : Int)) ∧ v5 = .int .i64 i ∧ Aside0 (MK w wr P))
  case atStart => exact ⟨0, Nat.zero_le _, by omega, by show _ = Value.int .i64 (a + ((0 : Nat) : Int)); simp, rfl, ⟨by repeat (first | exact HM0.out | apply MK.drewN | apply MK.drew)⟩⟩
  case round =>
   clear HM0
   obtain ⟨i, hi, hg, rfl, rfl, HM⟩ := hrel
   by_cases hlt : i < l.length
   ·have hltz : (i : Int) < (l.length : Int) := by omega
    have hcn : cntCh (l.take (i + 1)) = cntCh (l.take i) + (1 + 2 * l[i].f1.length) := cntOf_take _ l i hlt
    have hcl : cntCh (l.take (i + 1)) ≤ cntCh l := cntOf_le _ l (i + 1)
    obtain ⟨q, hqq⟩ : ∃ q, a + (cntCh (l.take i) : Int) = q := ⟨_, rfl⟩
    have hq0 : 0 ≤ q := by have := HA.out; omega
    have hq1 : q + 1 + 2 * (l[i].f1.length : Int) < 4611686018427387904 := by have := HN.out; omega
    have hq2 : q + 1 + 2 * (l[i].f1.length : Int) = a + (cntCh (l.take (i + 1)) : Int) := by omega
    rw [hqq]
    clear hqq hcn hcl
    obtain ⟨cs', hb', hc'⟩ := HM.out.rows g cs _ _ HB0.out
    obtain ⟨x0, hx0, qx0⟩ := HQ.out (i * 2) (by omega)
    obtain ⟨x1, hx1, qx1⟩ := HQ.out (i * 2 + 1) (by omega)
    obtain ⟨y0, hy0, sy0⟩ := hc' _ _ hx0
    obtain ⟨y1, hy1, sy1⟩ := hc' _ _ hx1
    have qx1' := QChange.move _ _ _ qx1 sy1
    clear qx1 sy1 hx1
    unfold QChange at qx0 qx1'
    rw [if_pos (by omega)] at qx0
    rw [if_neg (by omega), show (i * 2 + 1) / 2 = i by omega, List.getD_eq_getElem?_getD, List.getElem?_eq_getElem hlt, Option.getD_some] at qx1'
    obtain ⟨m0, rfl⟩ := qx0.move sy0
    obtain ⟨by_, hby⟩ : ∃ n, l[i].f1.length = n := ⟨_, rfl⟩
    rw [hby] at hq1 hq2 qx1'
    clear hby
    obtain ⟨A1, c1, rfl⟩ := qx1'.form
    clear hx0 qx0 sy0 hc'
    have hc0 : wr.cell? ⟨g, i * 2, none⟩ = some (.int .i64 m0) := (blk_cell hb' _).trans hy0
    have hf0 : wr.frozen? ⟨g, i * 2, none⟩ = false := blk_frozen hb' _
    have M1 := HM.out.set hb' hy0 HP.out q
    have hb2 := blk_set hb' (i * 2) (.int .i64 q)
    have hy2 : (cs'.setIfInBounds (i * 2) (.int .i64 q))[i * 2 + 1]? = some (.slice A1 by_ c1) := by rw [Array.getElem?_setIfInBounds, if_neg (by omega)]; exact hy1
    have e1 : wrap64 (q + 1) = q + 1 := by unfold wrap64; omega
    have e3 : wrap64 ((i : Int) + 1) = ((i + 1 : Nat) : Int) := by have := HL.out; unfold wrap64; omega
    have hc1 : (wr.setCell ⟨g, i * 2, none⟩ (.int .i64 q)).cell? ⟨g, i * 2 + 1, none⟩ = some (.slice A1 by_ c1) := (blk_cell hb2 _).trans hy2
    have HM1 := Aside0.mk M1
    have QN := Aside0.mk qx1'
    have HQ1 := Aside0.mk hq1
    have HQ2 := Aside0.mk hq2
    have HQ0 := Aside0.mk hq0
    have E3 := Aside0.mk e3
    clear hb2 hy2 M1 hb' hy0 hy1 e3 hq0 hq1 hq2 qx1'
    have p5 := eq_true (show (0 : Int) ≤ (i : Int) from Int.natCast_nonneg _)
    have q5 := eq_true hltz
    go_wp2_with (go_at_call 48; (refine (markNode_any P _ by_ (q + 1) _ ?side1 ?side2 ?side3).mono ?_); (case side1 => exact MRow.move QN.out (by repeat (first | exact HM1.out | apply MK.drewN | apply MK.drew)) QNode.move); (case side2 => have := HQ0.out; omega); (case side3 => exact HQ1.out); rintro e w2 ⟨rfl, hm⟩; have HM2 := Aside0.mk (HM1.out.trans hm); clear hm)
    go_roundg (l.length - (i + 1))
    case measure => omega
    case rel => exact ⟨i + 1, by omega, by omega, by first | exact congrArg _ HQ2.out | (rw [HQ2.out]), by first | exact congrArg _ E3.out | (rw [E3.out]), by repeat (first | exact HM2 | apply MK.drewN | apply MK.drew)⟩
   ·have hltz : ¬ (i : Int) < (l.length : Int) := by omega
    obtain rfl : i = l.length := by omega
    rw [List.take_length]
    go_wp2
    go_ret
    exact ⟨rfl, by repeat (first | exact HM.out | apply MK.drewN | apply MK.drew)⟩
def QCommand (w : World) (P : Nat → Prop) (l : List S54) (j : Nat) (x : Value) : Prop := if j % 2 = 0 then MNode w P x (l.getD (j / 2) z54).f0.length else MChange w P x (l.getD (j / 2) z54).f1
theorem QCommand.move {w : World} {P : Nat → Prop} {l : List S54} (j : Nat) (x x' : Value) (h : QCommand w P l j x) (hs : sameInt x x') : QCommand w P l j x' := by
 unfold QCommand at *
 split
 ·rename_i hj
  rw [if_pos hj] at h
  obtain ⟨A, c, rfl⟩ := h.form
  obtain rfl := slice_move hs
  exact h
 ·rename_i hj
  rw [if_neg hj] at h
  obtain ⟨A, c, rfl⟩ := h.form
  obtain rfl := slice_move hs
  exact h
/-- A row of commands that may be marked. -/
def MCommand (w : World) (P : Nat → Prop) (v : Value) (l : List S54) : Prop := MRow w 54 (l.length * 2) P (QCommand w P l) v l.length
theorem MCommand.of_R {base : Nat} {w : World} {P : Nat → Prop} {v : Value} {l : List S54} (h : Kd.R k54 54 w base P v l) : MCommand w P v l :=
 MRow.of_R z54 h (QCommand w P l) (fun i hi c hc hM q x hx => by
  obtain ⟨v0, v1, rfl, hv0, hv1⟩ := k54_openM hM
  rcases q with _ | _ | q
  ·injection hx with hx
   subst hx
   show QCommand w P l (i * 2 + 0) _
   unfold QCommand
   rw [if_pos (by omega), show (i * 2 + 0) / 2 = i by omega]
   exact MNode.of_R hv0
  ·injection hx with hx
   subst hx
   show QCommand w P l (i * 2 + 1) _
   unfold QCommand
   rw [if_neg (by omega), show (i * 2 + 1) / 2 = i by omega]
   exact MChange.of_R hv1
  ·cases hx)
set_option maxHeartbeats 8000000 in
set_option maxRecDepth 100000 in
theorem markCommand_any (P : Nat → Prop) (v : Value) (l : List S54) (a : Int) (w W : World) (h : MCommand w P v l) (hW : MK w W P) (ha : 0 ≤ a) (hn : a + (cntCm l : Int) < 4611686018427387904) (hl : l.length < 4611686018427387904) (hl2 : ∀ x ∈ l, x.f1.length < 4611686018427387904) :
  Calls Try.prog 49 #[v, .int .i64 a] W fun e w' => e = .returned (.int .i64 (a + (cntCm l : Int))) ∧ MK w w' P := by
 rcases h with ⟨h0, A, c, hv⟩ | ⟨g, c, cs, hv, hb, hp, hq⟩
 ·obtain rfl : l = [] := List.eq_nil_of_length_eq_zero h0
  subst hv
  have e0 : a + (cntCm [] : Int) = a := by show a + ((0 : Nat) : Int) = a; omega
  rw [e0]
  have HM := Aside0.mk hW
  clear hn e0 h0 hl hl2 hW
  go_enter Try.func49, Try.ntmps49
  go_wp2
  refine wp_loop_rounds 1 ?_
  rw [rounds_succ]
  go_wp2
  go_ret
  exact ⟨rfl, by repeat (first | exact HM.out | apply MK.drewN | apply MK.drew)⟩
 ·subst hv
  have HB0 := Aside0.mk hb
  have HQ := Aside0.mk hq
  have HN := Aside0.mk hn
  have HA := Aside0.mk ha
  have HL := Aside0.mk hl
  have HL2 := Aside0.mk hl2
  have HM0 := Aside0.mk hW
  clear hb hp hq hn ha hl hl2 hW
  go_enter Try.func49, Try.ntmps49
  go_wp2
  go_loopg [1, 5] l.length (fun gg v1 v5 wr => ∃ i : Nat, i ≤ l.length ∧ l.length - i ≤ gg ∧ v1 = .int .i64 (a + (cntCm (l.take i) : Int)) ∧ v5 = .int .i64 i ∧ Aside0 (MK w wr P))
  case atStart => exact ⟨0, Nat.zero_le _, by omega, by show _ = Value.int .i64 (a + ((0 : Nat) : Int)); simp, rfl, ⟨by repeat (first | exact HM0.out | apply MK.drewN | apply MK.drew)⟩⟩
  case round =>
   clear HM0
   obtain ⟨i, hi, hg, rfl, rfl, HM⟩ := hrel
   by_cases hlt : i < l.length
   ·have hltz : (i : Int) < (l.length : Int) := by omega
    have hcn : cntCm (l.take (i + 1)) = cntCm (l.take i) + (2 * l[i].f0.length + cntCh l[i].f1) := cntOf_take _ l i hlt
    have hcl : cntCm (l.take (i + 1)) ≤ cntCm l := cntOf_le _ l (i + 1)
    obtain ⟨q, hqq⟩ : ∃ q, a + (cntCm (l.take i) : Int) = q := ⟨_, rfl⟩
    have hq0 : 0 ≤ q := by have := HA.out; omega
    have hq1 : q + 2 * (l[i].f0.length : Int) + (cntCh l[i].f1 : Int) < 4611686018427387904 := by have := HN.out; omega
    have hq2 : q + 2 * (l[i].f0.length : Int) + (cntCh l[i].f1 : Int) = a + (cntCm (l.take (i + 1)) : Int) := by omega
    rw [hqq]
    clear hqq hcn hcl
    have hl2 := HL2.out l[i] (List.getElem_mem hlt)
    obtain ⟨cs', hb', hc'⟩ := HM.out.rows g cs _ _ HB0.out
    obtain ⟨x0, hx0, qx0⟩ := HQ.out (i * 2) (by omega)
    obtain ⟨x1, hx1, qx1⟩ := HQ.out (i * 2 + 1) (by omega)
    obtain ⟨y0, hy0, sy0⟩ := hc' _ _ hx0
    obtain ⟨y1, hy1, sy1⟩ := hc' _ _ hx1
    have qx0' := QCommand.move _ _ _ qx0 sy0
    have qx1' := QCommand.move _ _ _ qx1 sy1
    clear qx0 sy0 hx0 qx1 sy1 hx1 hc'
    unfold QCommand at qx0' qx1'
    rw [if_pos (by omega), show i * 2 / 2 = i by omega, List.getD_eq_getElem?_getD, List.getElem?_eq_getElem hlt, Option.getD_some] at qx0'
    rw [if_neg (by omega), show (i * 2 + 1) / 2 = i by omega, List.getD_eq_getElem?_getD, List.getElem?_eq_getElem hlt, Option.getD_some] at qx1'
    obtain ⟨ch, hch⟩ : ∃ n, l[i].f1 = n := ⟨_, rfl⟩
    obtain ⟨wn, hwn⟩ : ∃ n, l[i].f0.length = n := ⟨_, rfl⟩
    rw [hwn, hch] at hq1 hq2
    rw [hwn] at qx0'
    rw [hch] at qx1' hl2
    clear hwn hch
    obtain ⟨A0, c0, rfl⟩ := qx0'.form
    obtain ⟨A1, c1, rfl⟩ := qx1'.form
    have hc0 : wr.cell? ⟨g, i * 2, none⟩ = some (.slice A0 wn c0) := (blk_cell hb' _).trans hy0
    have e3 : wrap64 ((i : Int) + 1) = ((i + 1 : Nat) : Int) := by have := HL.out; unfold wrap64; omega
    have HY1 := Aside0.mk hy1
    have HB1 := Aside0.mk hb'
    have QN := Aside0.mk qx0'
    have QC := Aside0.mk qx1'
    have HQ1 := Aside0.mk hq1
    have HQ2 := Aside0.mk hq2
    have HQ0 := Aside0.mk hq0
    have E3 := Aside0.mk e3
    have HL3 := Aside0.mk hl2
    clear hb' hy0 hy1 e3 hq0 hq1 hq2 qx0' qx1' hl2
    have p5 := eq_true (show (0 : Int) ≤ (i : Int) from Int.natCast_nonneg _)
    have q5 := eq_true hltz
    go_wp2_with (first | (go_at_call 48; (refine (markNode_any P _ wn q _ ?side1 ?side2 ?side3).mono ?_); (case side1 => exact MRow.move QN.out (by repeat (first | exact HM.out | apply MK.drewN | apply MK.drew)) QNode.move); (case side2 => exact HQ0.out); (case side3 => have := HQ1.out; omega); rintro e w2 ⟨rfl, hm⟩; have HM2 := Aside0.mk (HM.out.trans hm); obtain ⟨cs2, hb2, hc2⟩ := hm.rows g cs' _ _ HB1.out; obtain ⟨y2, hy2, sy2⟩ := hc2 _ _ HY1.out; obtain rfl := slice_move sy2; have hc1 : w2.cell? ⟨g, i * 2 + 1, none⟩ = some (.slice A1 ch.length c1) := (blk_cell hb2 _).trans hy2; clear hm hb2 hc2 hy2 sy2) | (go_at_call 62; (refine (markChange_any P _ ch (q + 2 * (wn : Int)) w _ ?side1 ?side2 ?side3 ?side4 ?side5).mono ?_); (case side1 => exact QC.out); (case side2 => repeat (first | exact HM2.out | apply MK.drewN | apply MK.drew)); (case side3 => have := HQ0.out; omega); (case side4 => exact HQ1.out); (case side5 => exact HL3.out); rintro e w3 ⟨rfl, hm⟩; have HM3 := Aside0.mk hm; clear hm))
    go_roundg (l.length - (i + 1))
    case measure => omega
    case rel => exact ⟨i + 1, by omega, by omega, by first | exact congrArg _ HQ2.out | (rw [HQ2.out]), by first | exact congrArg _ E3.out | (rw [E3.out]), by repeat (first | exact HM3 | apply MK.drewN | apply MK.drew)⟩
   ·have hltz : ¬ (i : Int) < (l.length : Int) := by omega
    obtain rfl : i = l.length := by omega
    rw [List.take_length]
    go_wp2
    go_ret
    exact ⟨rfl, by repeat (first | exact HM.out | apply MK.drewN | apply MK.drew)⟩
def markTs : List Nat := [82, 80, 54]
/-- The blocks from B on that hold nodes, changes or commands. -/
def mkT (w : World) (B k : Nat) : Prop := B ≤ k ∧ ∃ q cells, q ∈ markTs ∧ w.heap[k]? = some (.cells cells q (0, 0))
theorem R_keepT {α : Type} {d : Kd α} {e base B : Nat} {ok : Nat → Prop} {W W2 : World} {v : Value} {xs : List α} (h : d.R e W base ok v xs) (hk : Kept W W2 (mkT W B)) (ht : ∀ q, q ∈ e :: d.E → ¬ q ∈ markTs) : d.R e W2 base ok v xs :=
 Kd.R_mono (Kd.R_keptB (Kd.R_bound h) hk (fun k hk hs => by
  obtain ⟨_, _, _, q, hq, cells, hc⟩ := hk
  obtain ⟨_, q', cells', hq', hc'⟩ := hs
  rw [hc] at hc'
  injection hc' with hc'
  injection hc' with _ h2 _
  exact ht q hq (by rw [h2]; exact hq'))) (fun _ hk => hk.1.1)
theorem blk_keepT {W W2 : World} {B g : Nat} {cs : Array Value} {t : TypeId} (h : W.heap[g]? = some (.cells cs t (0, 0))) (hk : Kept W W2 (mkT W B)) (ht : ¬ t ∈ markTs) : W2.heap[g]? = some (.cells cs t (0, 0)) :=
 blk_kept h hk (fun hs => by
  obtain ⟨_, q', cells', hq', hc'⟩ := hs
  rw [h] at hc'
  injection hc' with hc'
  injection hc' with _ h2 _
  exact ht (by rw [h2]; exact hq'))
def cntProg (l2 : List S82) (l3 : List S54) : Nat := 2 * l2.length + cntCm l3
/-- 'markProgram': the number behind the last. -/
def laws_markProgram.f (_ _ : Int) (l2 : List S82) (l3 : List S54) (a : Int) : Option Int :=
 if 0 ≤ a ∧ a + (cntProg l2 l3 : Int) < 4611686018427387904 ∧ l3.length < 4611686018427387904 ∧ (l3.all fun x => decide (x.f1.length < 4611686018427387904)) = true then some (a + (cntProg l2 l3 : Int)) else none
set_option maxHeartbeats 8000000 in
set_option maxRecDepth 100000 in
theorem laws_markProgram.calls (a0 a1 : Int) (P2 : Nat → Prop) (u2 : Value) (l2 : List S82) (P3 : Nat → Prop) (u3 : Value) (l3 : List S54) (a r1 : Int) (w0 w : World) (hB : Below w0.heap.size w0 w)
  (ho2 : Kd.R k82 82 w w0.heap.size P2 u2 l2) (ho3 : Kd.R k54 54 w w0.heap.size P3 u3 l3) (h : laws_markProgram.f a0 a1 l2 l3 a = some r1) :
  Calls Try.prog 20 #[.agg #[.int .i64 a0, .int .i64 a1, u2, u3], .int .i64 a] w fun e w' => e = .returned (.int .i64 r1) ∧ Below w0.heap.size w0 w' ∧ Kept w w' (mkT w w0.heap.size) := by
 unfold laws_markProgram.f at h
 split at h
 case isFalse => cases h
 rename_i hc
 obtain ⟨h0, h1, h2, h3⟩ := hc
 obtain rfl := Option.some.inj h
 simp only [List.all_eq_true, decide_eq_true_eq] at h3
 have r2 : Kd.R k82 82 w w0.heap.size (mkT w w0.heap.size) u2 l2 := Kd.R_mono (Kd.R_bound ho2) (fun k hk => by
  obtain ⟨_, hb, _, q, hq, cells, hc⟩ := hk
  refine ⟨hb, q, cells, ?_, hc⟩
  have hd : ∀ q, q ∈ 82 :: (k82).E → q ∈ markTs := by decide
  exact hd q hq)
 have r3 : Kd.R k54 54 w w0.heap.size (mkT w w0.heap.size) u3 l3 := Kd.R_mono (Kd.R_bound ho3) (fun k hk => by
  obtain ⟨_, hb, _, q, hq, cells, hc⟩ := hk
  refine ⟨hb, q, cells, ?_, hc⟩
  have hd : ∀ q, q ∈ 54 :: (k54).E → q ∈ markTs := by decide
  exact hd q hq)
 have m2 := MNode.of_R r2
 have m3 := MCommand.of_R r3
 obtain ⟨A2, c2, e2⟩ := Kd.R_slice r2
 obtain ⟨A3, c3, e3⟩ := Kd.R_slice r3
 subst e2 e3
 have hP : ∀ k, mkT w w0.heap.size k → w0.heap.size ≤ k := fun k hk => hk.1
 obtain ⟨T, hT⟩ : ∃ T, mkT w w0.heap.size = T := ⟨_, rfl⟩
 rw [hT] at m2 m3 hP ⊢
 unfold cntProg at h1 ⊢
 obtain ⟨r, hr⟩ : ∃ r : Int, a + ((2 * l2.length + cntCm l3 : Nat) : Int) = r := ⟨_, rfl⟩
 have hr2 : r = a + 2 * (l2.length : Int) + (cntCm l3 : Int) := by omega
 rw [hr] at h1 ⊢
 have M2 := Aside0.mk m2
 have M3 := Aside0.mk m3
 have HP := Aside0.mk hP
 have HBW := Aside0.mk hB
 have H0 := Aside0.mk h0
 have H1 := Aside0.mk h1
 have H2 := Aside0.mk h2
 have H3 := Aside0.mk h3
 have HR := Aside0.mk hr2
 clear r2 r3 m2 m3 hP hB h0 h1 h2 h3 hr hr2 ho2 ho3 hT h
 have HM := Aside0.mk (MK.refl w T)
 go_enter Try.func20, Try.ntmps20
 go_wp2_with (first | ((with_reducible refine gate_dst (N := 2) rfl ?_); refine box_event ?hg (N := 2) ?hd (cs := #[.int .i64 a0, .int .i64 a1, .slice A2 l2.length c2, .slice A3 l3.length c3]) (t := 31) ?hr ?_; (case hd => rfl); (case hg => rfl); (case hr => first | (go_simp; done) | (go_simp; rfl)); intro gb hg w5 hbox hb; have HM5 := Aside0.mk (HM.out.trans (MK.of_below T hb)); have BK := Aside0.mk hbox; have hcz2 : w5.cell? ⟨gb, 2, none⟩ = some (.slice A2 l2.length c2) := (blk_cell BK.out 2).trans rfl; have hcz3 : w5.cell? ⟨gb, 3, none⟩ = some (.slice A3 l3.length c3) := (blk_cell BK.out 3).trans rfl; clear hbox hb hg HM) | (go_at_call 48; (refine (markNode_any T _ l2.length a _ ?side1 ?side2 ?side3).mono ?_); (case side1 => exact MRow.move M2.out (by repeat (first | exact HM5.out | apply MK.drewN | apply MK.drew)) QNode.move); (case side2 => exact H0.out); (case side3 => have := H1.out; have := HR.out; omega); rintro e w2 ⟨rfl, hm⟩; have HM2 := Aside0.mk (HM5.out.trans hm); obtain ⟨cs2, hb2, hc2⟩ := hm.rows gb _ _ _ BK.out; obtain ⟨y2, hy2, sy2⟩ := hc2 3 (.slice A3 l3.length c3) rfl; obtain rfl := slice_move sy2; have hc1 : w2.cell? ⟨gb, 3, none⟩ = some (.slice A3 l3.length c3) := (blk_cell hb2 _).trans hy2; clear hm hb2 hc2 hy2 sy2) | (go_at_call 49; (refine (markCommand_any T _ l3 (a + 2 * (l2.length : Int)) w _ ?side1 ?side2 ?side3 ?side4 ?side5 ?side6).mono ?_); (case side1 => exact M3.out); (case side2 => repeat (first | exact HM2.out | apply MK.drewN | apply MK.drew)); (case side3 => have := H0.out; omega); (case side4 => have := H1.out; have := HR.out; omega); (case side5 => exact H2.out); (case side6 => exact H3.out); rintro e w3 ⟨rfl, hm⟩; have HM3 := Aside0.mk hm; clear hm))
 go_ret
 exact ⟨by rw [HR.out]; rfl, HM3.out.below HBW.out HP.out, HM3.out.kept⟩


/-! ### laws_markUint64S: function 21 -/
def laws_markUint64S.l0 : Nat → List Int → Int → Int → Option (Int × List Int)
 | 0, _, _, _ => none
 | k + 1, x0, x1, x5 => if x5 < (x0.length : Int) then (if 0 ≤ x5 then (laws_markUint64S.l0 k (x0.set (x5 : Int).toNat (IntKind.u64.wrap (x1))) (wrap64 (x1 + 1)) (wrap64 (x5 + 1))) else (none)) else (some (x1, x0))
def laws_markUint64S.f (k : Nat) (l0 : List Int) (a1 : Int) : Option (Int × List Int) := laws_markUint64S.l0 k l0 a1 0
theorem laws_markUint64S.mono_l : ∀ k, (∀ y0 y1 y2, LeO (laws_markUint64S.l0 k y0 y1 y2) (laws_markUint64S.l0 (k + 1) y0 y1 y2))
 | 0 => fun _ _ _ r h => by simp [laws_markUint64S.l0] at h
 | k + 1 => by
  have ih0 := laws_markUint64S.mono_l k
  ·intro y0 y1 y2
   unfold laws_markUint64S.l0
   repeat' first
   | (with_reducible exact ih0 _ _ _)
   | (with_reducible first | exact LeO.refl _ | exact LeO.none _ | refine LeO.ite ?_ ?_ | refine LeO.bind ?_ (fun _ => ?_))
   | exact ih0 _ _ _
   | exact LeO.none _ | refine LeO.ite ?_ ?_ | refine LeO.bind ?_ (fun _ => ?_)
theorem laws_markUint64S.mono : ∀ a0 a1 k, LeO (laws_markUint64S.f k a0 a1) (laws_markUint64S.f (k + 1) a0 a1) := by
 intro a0 a1 k
 have ih0 := laws_markUint64S.mono_l k
 unfold laws_markUint64S.f
 repeat' first
   | (with_reducible exact ih0 _ _ _)
   | (with_reducible first | exact LeO.refl _ | exact LeO.none _ | refine LeO.ite ?_ ?_ | refine LeO.bind ?_ (fun _ => ?_))
   | exact ih0 _ _ _
   | exact LeO.none _ | refine LeO.ite ?_ ?_ | refine LeO.bind ?_ (fun _ => ?_)
set_option maxHeartbeats 8000000 in
set_option maxRecDepth 100000 in
theorem laws_markUint64S.calls (k : Nat) (P0_ : Nat → Prop) (u9000_ : Value) (l0 : List Int) (a1 : Int) (r1 : Int) (r2 : List Int) (w0 w : World) (hB : Below w0.heap.size w0 w) (ho0 : Kd.R (Kd.int .u64) 66 w w0.heap.size P0_ u9000_ l0) (h : laws_markUint64S.f k l0 a1 = some (r1, r2)) :
  Calls Try.prog 21 #[u9000_, .int .i64 a1] w fun e w' => e = .returned (.int .i64 r1) ∧ Kd.R (Kd.int .u64) 66 w' w0.heap.size (fun k_ => (P0_ k_ ∨ w.heap.size ≤ k_)) u9000_ r2 ∧ Below w0.heap.size w0 w' ∧ Kept w w' (fun k_ => P0_ k_) := by
 have HO0 := Aside0.mk (show Kd.R (Kd.int .u64) 66 w w0.heap.size (fun k_ => (P0_ k_ ∨ w.heap.size ≤ k_)) u9000_ l0 from Kd.R_mono ho0 (fun k_ hk => (.inl hk)))
 have HK := Aside0.mk (Kept.refl w (fun k_ => P0_ k_))
 have HW0 := Aside0.mk hB.size
 have HB := Aside0.mk hB
 clear hB
 have H : (laws_markUint64S.l0 k l0 a1 0) = some (r1, r2) := h
 clear h
 have H' := Aside0.mk H
 clear H
 go_enter Try.func21, Try.ntmps21
 go_wp2
 go_loopg [1, 5] k (fun kq v1 v5 w' => ∃ (x0_1 : List Int) (x1_1 : Int) (x5_1 : Int), v1 = .int .i64 x1_1 ∧ v5 = .int .i64 x5_1 ∧ Aside0 (laws_markUint64S.l0 kq x0_1 x1_1 x5_1 = some (r1, r2)) ∧ Aside0 (kq ≤ k) ∧ Aside0 (Kd.R (Kd.int .u64) 66 w' w0.heap.size (fun k_ => (P0_ k_ ∨ w.heap.size ≤ k_)) u9000_ x0_1) ∧ Aside0 (Kept w w' (fun k_ => P0_ k_)) ∧ Aside0 (Below w0.heap.size w0 w'))
 case atStart => exact ⟨(l0), (a1), (0), qS, qS, H', ⟨Nat.le_refl _⟩, ⟨qR HO0.out⟩, ⟨qH⟩, ⟨qB⟩⟩
 case round =>
  clear H'
  try clear c2
  try clear p2
  obtain ⟨x0_1, x1_1, x5_1, rfl, rfl, HA, HK1, HO_0, HK, HB⟩ := hrel
  cases gk with
  | zero => exact absurd HA.out (by simp [laws_markUint64S.l0])
  | succ k1 =>
   have H := HA.out
   clear HA
   simp only [laws_markUint64S.l0] at H
   by_cases c3 : x5_1 < (x0_1.length : Int)
   ·rw [if_pos c3] at H
    have c3b0 : decide (x5_1 < (x0_1.length : Int)) = true := decide_eq_true c3
    clear c3
    by_cases c4 : 0 ≤ x5_1
    ·rw [if_pos c4] at H
     have c4b0 : decide (0 ≤ x5_1) = true := decide_eq_true c4
     clear c4
     obtain ⟨y450, hy450⟩ : ∃ y_ : List Int, y_ = (x0_1.set (x5_1 : Int).toNat (IntKind.u64.wrap (x1_1))) := ⟨_, rfl⟩
     replace H : (laws_markUint64S.l0 k1 y450 (wrap64 (x1_1 + 1)) (wrap64 (x5_1 + 1))) = some (r1, r2) := qY hy450 H
     have Ny450 := Aside0.mk hy450
     clear hy450
     have H' := Aside0.mk H
     clear H
     obtain ⟨Ao6, co6, eo6⟩ := Kd.R_slice HO_0.out
     subst eo6
     have p5 : 0 ≤ (x5_1 : Int) := qD
     have q5 : (x5_1 : Int) < ((x0_1.length : Int) : Int) := qD
     obtain ⟨go5, co5, eo5, gb5, gl5, cl5, HG5⟩ := Kd.R_form HO_0.out (by omega)
     (first | cases eo5 | (injection eo5 with ea_ en_ ec_; (first | subst ea_ | (injection ea_ with ea_; subst ea_)); subst ec_; clear en_))
     have GB5 := Aside0.mk gb5
     have GG5 := Aside0.mk HG5
     clear gb5 gl5 HG5
     have HMgo5 := Aside0.mk (show (P0_ go5 ∨ w.heap.size ≤ go5) from (HO_0.out.1 _ rfl))
     obtain ⟨hx5_0, hf5_0⟩ := Kd.R_celln 0 HO_0.out (x5_1 : Int) p5 q5
     replace p5 := eq_true p5
     replace q5 := eq_true q5
     have HP7 := Kd.R_putg HO_0.out (x5_1 : Int) (IntKind.u64.wrap (x1_1))
     go_wp2_with (first | ((with_reducible refine gate_store (t := 66) (p := 16) rfl ?_); refine store_event (t := 66) (p := 16) (v := ?vo_w8) (w1 := (wr.setCell ⟨go5, (x5_1 : Int).toNat, none⟩ (.int .u64 (IntKind.u64.wrap (x1_1))))) ?hg ?ho ?hn ?hr ?_; (case ho => rfl); (case hg => rfl); (case hn => rfl); (case hr => first | (go_simp; done) | (go_simp; rfl)); intro w8 hw; have hg : wr.grownBy w8 (some go5) := (by rw [hw]; exact HP7.2); have hp_ : Kd.R (Kd.int .u64) 66 w8 w0.heap.size (fun k_ => (P0_ k_ ∨ w.heap.size ≤ k_)) (.slice (some ⟨go5, 0, none⟩) x0_1.length co6) y450 := (by rw [hw, Ny450.out]; exact HP7.1); clear HP7; have n0_ := Aside0.mk (hp_); have n1_ := Aside0.mk ((by rw [hw]; exact below_set (HB.out) GB5.out : Below w0.heap.size w0 w8)); have n2_ := Aside0.mk (Kept.of_grown (S := (fun k_ => P0_ k_)) hg (qH) (fun k_ e_ => (HO_0.out.1 k_ e_))); clear HO_0; clear HB; clear HK; have HO_0 := n0_; have HB := n1_; have HK := n2_; clear n0_ n1_ n2_; clear hg hw hp_))
     go_roundg k1
     case measure => have := HK1.out; omega
     case rel => exact ⟨(y450), (wrap64 (x1_1 + 1)), (wrap64 (x5_1 + 1)), qS, qS, H', ⟨by have := HK1.out; omega⟩, ⟨qR HO_0.out⟩, ⟨qH⟩, ⟨qB⟩⟩
    ·rw [if_neg c4] at H
     exact absurd H (by simp)
   ·rw [if_neg c3] at H
    have c3b0 : decide (x5_1 < (x0_1.length : Int)) = false := decide_eq_false c3
    clear c3
    simp only [Option.some.injEq, Prod.mk.injEq] at H
    obtain ⟨rfl, rfl⟩ := H
    obtain ⟨Ao9, co9, eo9⟩ := Kd.R_slice HO_0.out
    subst eo9
    go_wp2
    go_ret
    exact ⟨qE, qR HO_0.out, qB, qH⟩

/-! ### laws_heldUint64S: function 22 -/
def laws_heldUint64S.l0 : Nat → List Int → Int → Int → Option (Int)
 | 0, _, _, _ => none
 | k + 1, x0, x1, x5 => if x5 < (x0.length : Int) then (if 0 ≤ x5 then (if (rd x0 x5) = (IntKind.u64.wrap (x1)) then (laws_heldUint64S.l0 k x0 (wrap64 (x1 + 1)) (wrap64 (x5 + 1))) else (some (-1))) else (none)) else (some x1)
def laws_heldUint64S.f (k : Nat) (l0 : List Int) (a1 : Int) : Option (Int) := laws_heldUint64S.l0 k l0 a1 0
theorem laws_heldUint64S.mono_l : ∀ k, (∀ y0 y1 y2, LeO (laws_heldUint64S.l0 k y0 y1 y2) (laws_heldUint64S.l0 (k + 1) y0 y1 y2))
 | 0 => fun _ _ _ r h => by simp [laws_heldUint64S.l0] at h
 | k + 1 => by
  have ih0 := laws_heldUint64S.mono_l k
  ·intro y0 y1 y2
   unfold laws_heldUint64S.l0
   repeat' first
   | (with_reducible exact ih0 _ _ _)
   | (with_reducible first | exact LeO.refl _ | exact LeO.none _ | refine LeO.ite ?_ ?_ | refine LeO.bind ?_ (fun _ => ?_))
   | exact ih0 _ _ _
   | exact LeO.none _ | refine LeO.ite ?_ ?_ | refine LeO.bind ?_ (fun _ => ?_)
theorem laws_heldUint64S.mono : ∀ a0 a1 k, LeO (laws_heldUint64S.f k a0 a1) (laws_heldUint64S.f (k + 1) a0 a1) := by
 intro a0 a1 k
 have ih0 := laws_heldUint64S.mono_l k
 unfold laws_heldUint64S.f
 repeat' first
   | (with_reducible exact ih0 _ _ _)
   | (with_reducible first | exact LeO.refl _ | exact LeO.none _ | refine LeO.ite ?_ ?_ | refine LeO.bind ?_ (fun _ => ?_))
   | exact ih0 _ _ _
   | exact LeO.none _ | refine LeO.ite ?_ ?_ | refine LeO.bind ?_ (fun _ => ?_)
set_option maxHeartbeats 8000000 in
set_option maxRecDepth 100000 in
theorem laws_heldUint64S.calls (k : Nat) (A0 : Option Addr) (c0 : Nat) (l0 : List Int) (a1 : Int) (r : Int) (w : World) (hr0 : Kd.C (Kd.int .u64) w A0 l0.length l0) (hc0 : l0.length ≤ c0) (h : laws_heldUint64S.f k l0 a1 = some r) :
  Calls Try.prog 22 #[.slice A0 l0.length c0, .int .i64 a1] w fun e w' => e = .returned (.int .i64 r) ∧ Drawn0 w w' := by
 have HR0 := Aside0.mk hr0
 have HC0 := Aside0.mk hc0
 clear hr0 hc0
 have H : (laws_heldUint64S.l0 k l0 a1 0) = some r := h
 clear h
 have H' := Aside0.mk H
 clear H
 go_enter Try.func22, Try.ntmps22
 go_wp2
 go_loopg [1, 5] k (fun kq v1 v5 w' => ∃ (x1_1 : Int) (x5_1 : Int), v1 = .int .i64 x1_1 ∧ v5 = .int .i64 x5_1 ∧ Aside0 (laws_heldUint64S.l0 kq l0 x1_1 x5_1 = some r) ∧ Aside0 (kq ≤ k) ∧ Drawn0 w w')
 case atStart => exact ⟨(a1), (0), qS, qS, H', ⟨Nat.le_refl _⟩, by repeat (first | exact Drawn0.refl _ | apply Drawn0.step)⟩
 case round =>
  clear H'
  try clear c2
  try clear p2
  obtain ⟨x1_1, x5_1, rfl, rfl, HA, HK1, ⟨m1, rfl⟩⟩ := hrel
  cases gk with
  | zero => exact absurd HA.out (by simp [laws_heldUint64S.l0])
  | succ k1 =>
   have H := HA.out
   clear HA
   simp only [laws_heldUint64S.l0] at H
   by_cases c3 : x5_1 < (l0.length : Int)
   ·rw [if_pos c3] at H
    have c3b0 : decide (x5_1 < (l0.length : Int)) = true := decide_eq_true c3
    clear c3
    by_cases c4 : 0 ≤ x5_1
    ·rw [if_pos c4] at H
     have c4b0 : decide (0 ≤ x5_1) = true := decide_eq_true c4
     clear c4
     by_cases c5 : (rd l0 x5_1) = (IntKind.u64.wrap (x1_1))
     ·rw [if_pos c5] at H
      have c5b0 : ((rd l0 x5_1) == (IntKind.u64.wrap (x1_1))) = true := beq_iff_eq.mpr c5
      have c5b1 : ((rd l0 x5_1) != (IntKind.u64.wrap (x1_1))) = false := bne_eq_false_iff_eq.mpr c5
      clear c5
      have H' := Aside0.mk H
      clear H
      have p451 : 0 ≤ (x5_1 : Int) := qD
      have q451 : x5_1 < (l0.length : Int) := qD
      obtain ⟨ad451, e451, hx451_0⟩ := Kd.at_int HR0.out x5_1 p451 q451
      cases e451
      replace p451 := eq_true p451
      replace q451 := eq_true q451
      go_wp2
      go_roundg k1
      case measure => have := HK1.out; omega
      case rel => exact ⟨(wrap64 (x1_1 + 1)), (wrap64 (x5_1 + 1)), qS, qS, H', ⟨by have := HK1.out; omega⟩, by repeat (first | exact Drawn0.refl _ | apply Drawn0.step)⟩
     ·rw [if_neg c5] at H
      have c5b0 : ((rd l0 x5_1) == (IntKind.u64.wrap (x1_1))) = false := beq_eq_false_iff_ne.mpr c5
      have c5b1 : ((rd l0 x5_1) != (IntKind.u64.wrap (x1_1))) = true := bne_iff_ne.mpr c5
      obtain rfl := Option.some.inj H
      have p451 : 0 ≤ (x5_1 : Int) := qD
      have q451 : x5_1 < (l0.length : Int) := qD
      obtain ⟨ad451, e451, hx451_0⟩ := Kd.at_int HR0.out x5_1 p451 q451
      cases e451
      replace p451 := eq_true p451
      replace q451 := eq_true q451
      go_wp2
      go_ret
      exact ⟨by first | rfl | (simp; done) | (simp [*]; done), by repeat (first | exact Drawn0.refl _ | apply Drawn0.step)⟩
    ·rw [if_neg c4] at H
     exact absurd H (by simp)
   ·rw [if_neg c3] at H
    have c3b0 : decide (x5_1 < (l0.length : Int)) = false := decide_eq_false c3
    clear c3
    obtain rfl := Option.some.inj H
    go_wp2
    go_ret
    exact ⟨by first | rfl | (simp; done) | (simp [*]; done), by repeat (first | exact Drawn0.refl _ | apply Drawn0.step)⟩

end Go.Proofs.Ytkebpfpkohehgaa.X
