/- Go functions as Lean functions, each with the proof that its call comes to just its answer. Conditions: the arguments are of their kinds. -/
import Derived.Test.YtckdgmbmjfhodaaX0
namespace Go.Proofs.Ytckdgmbmjfhodaa.X
open Go.RowKit Go.Proofs.YtckdgmbmjfhodaaW.PrintWords Go.Proofs.YtckdgmbmjfhodaaW.PrintLast Go.Proofs.YtckdgmbmjfhodaaW.PrintMore
attribute [local go_sem] max2_int min2_int max_two min_two max_three min_three max_four min_four   -- for this text's walks alone
set_option linter.unusedVariables false
set_option linter.unusedSimpArgs false

/-! ### laws_markNodeS: function 15 -/
def laws_markNodeS.l0 : Nat → List (S52) → Int → Int → Option (Int × (List (S52)))
 | 0, _, _, _ => none
 | k + 1, x0, x1, x5 => if x5 < (x0.length : Int) then (if 0 ≤ x5 then ((some (x0.set (x5 : Int).toNat (⟨x1, (rd_T52 x0 x5).f1⟩ : S52) : List (S52))).bind fun y225 => (laws_markNodeS.l0 k (y225.set (x5 : Int).toNat (⟨(rd_T52 y225 x5).f0, IntKind.u64.wrap (wrap64 (x1 + 1))⟩ : S52)) (wrap64 ((wrap64 (x1 + 1)) + 1)) (wrap64 (x5 + 1)))) else (none)) else (some (x1, x0))
def laws_markNodeS.f (k : Nat) (l0 : List (S52)) (a1 : Int) : Option (Int × (List (S52))) := laws_markNodeS.l0 k l0 a1 0
theorem laws_markNodeS.mono_l : ∀ k, (∀ y0 y1 y2, LeO (laws_markNodeS.l0 k y0 y1 y2) (laws_markNodeS.l0 (k + 1) y0 y1 y2))
 | 0 => fun _ _ _ r h => by simp [laws_markNodeS.l0] at h
 | k + 1 => by
  have ih0 := laws_markNodeS.mono_l k
  ·intro y0 y1 y2
   unfold laws_markNodeS.l0
   repeat' first
   | (with_reducible exact ih0 _ _ _)
   | (with_reducible first | exact LeO.refl _ | exact LeO.none _ | refine LeO.ite ?_ ?_ | refine LeO.bind ?_ (fun _ => ?_))
   | exact ih0 _ _ _
   | exact LeO.none _ | refine LeO.ite ?_ ?_ | refine LeO.bind ?_ (fun _ => ?_)
theorem laws_markNodeS.mono : ∀ a0 a1 k, LeO (laws_markNodeS.f k a0 a1) (laws_markNodeS.f (k + 1) a0 a1) := by
 intro a0 a1 k
 have ih0 := laws_markNodeS.mono_l k
 unfold laws_markNodeS.f
 repeat' first
   | (with_reducible exact ih0 _ _ _)
   | (with_reducible first | exact LeO.refl _ | exact LeO.none _ | refine LeO.ite ?_ ?_ | refine LeO.bind ?_ (fun _ => ?_))
   | exact ih0 _ _ _
   | exact LeO.none _ | refine LeO.ite ?_ ?_ | refine LeO.bind ?_ (fun _ => ?_)
set_option maxHeartbeats 8000000 in
set_option maxRecDepth 100000 in
theorem laws_markNodeS.calls (k : Nat) (P0_ : Nat → Prop) (u9000_ : Value) (l0 : List (S52)) (a1 : Int) (r1 : Int) (r2 : List (S52)) (w0 w : World) (hB : Below w0.heap.size w0 w) (ho0 : Kd.R k52 52 w w0.heap.size P0_ u9000_ l0) (h : laws_markNodeS.f k l0 a1 = some (r1, r2)) :
  Calls Try.prog 15 #[u9000_, .int .i64 a1] w fun e w' => e = .returned (.int .i64 r1) ∧ Kd.R k52 52 w' w0.heap.size (fun k_ => (P0_ k_ ∨ w.heap.size ≤ k_)) u9000_ r2 ∧ Below w0.heap.size w0 w' ∧ Kept w w' (fun k_ => P0_ k_) := by
 have HO0 := Aside0.mk (show Kd.R k52 52 w w0.heap.size (fun k_ => (P0_ k_ ∨ w.heap.size ≤ k_)) u9000_ l0 from Kd.R_mono ho0 (fun k_ hk => (.inl hk)))
 have HK := Aside0.mk (Kept.refl w (fun k_ => P0_ k_))
 have HW0 := Aside0.mk hB.size
 have HB := Aside0.mk hB
 clear hB
 have H : (laws_markNodeS.l0 k l0 a1 0) = some (r1, r2) := h
 clear h
 have H' := Aside0.mk H
 clear H
 go_enter Try.func15, Try.ntmps15
 go_wp2
 go_loopg [1, 5] k (fun kq v1 v5 w' => ∃ (x0_1 : List (S52)) (x1_1 : Int) (x5_1 : Int), v1 = .int .i64 x1_1 ∧ v5 = .int .i64 x5_1 ∧ Aside0 (laws_markNodeS.l0 kq x0_1 x1_1 x5_1 = some (r1, r2)) ∧ Aside0 (kq ≤ k) ∧ Aside0 (Kd.R k52 52 w' w0.heap.size (fun k_ => (P0_ k_ ∨ w.heap.size ≤ k_)) u9000_ x0_1) ∧ Aside0 (Kept w w' (fun k_ => P0_ k_)) ∧ Aside0 (Below w0.heap.size w0 w'))
 case atStart => exact ⟨(l0), (a1), (0), qS, qS, H', ⟨Nat.le_refl _⟩, ⟨qR HO0.out⟩, ⟨qH⟩, ⟨qB⟩⟩
 case round =>
  clear H'
  try clear c1
  try clear p2
  obtain ⟨x0_1, x1_1, x5_1, rfl, rfl, HA, HK1, HO_0, HK, HB⟩ := hrel
  cases gk with
  | zero => exact absurd HA.out (by simp [laws_markNodeS.l0])
  | succ k1 =>
   have H := HA.out
   clear HA
   simp only [laws_markNodeS.l0] at H
   by_cases c3 : x5_1 < (x0_1.length : Int)
   ·rw [if_pos c3] at H
    have c3b0 : decide (x5_1 < (x0_1.length : Int)) = true := decide_eq_true c3
    clear c3
    by_cases c4 : 0 ≤ x5_1
    ·rw [if_pos c4] at H
     have c4b0 : decide (0 ≤ x5_1) = true := decide_eq_true c4
     clear c4
     obtain ⟨y225, hy225⟩ : ∃ y_ : List (S52), y_ = (x0_1.set (x5_1 : Int).toNat (⟨x1_1, (rd_T52 x0_1 x5_1).f1⟩ : S52)) := ⟨_, rfl⟩
     replace H : (laws_markNodeS.l0 k1 (y225.set (x5_1 : Int).toNat (⟨(rd_T52 y225 x5_1).f0, IntKind.u64.wrap (wrap64 (x1_1 + 1))⟩ : S52)) (wrap64 ((wrap64 (x1_1 + 1)) + 1)) (wrap64 (x5_1 + 1))) = some (r1, r2) := qY hy225 H
     have Ny225 := Aside0.mk hy225
     clear hy225
     obtain ⟨y226, hy226⟩ : ∃ y_ : List (S52), y_ = (y225.set (x5_1 : Int).toNat (⟨(rd_T52 y225 x5_1).f0, IntKind.u64.wrap (wrap64 (x1_1 + 1))⟩ : S52)) := ⟨_, rfl⟩
     replace H : (laws_markNodeS.l0 k1 y226 (wrap64 ((wrap64 (x1_1 + 1)) + 1)) (wrap64 (x5_1 + 1))) = some (r1, r2) := qY hy226 H
     have Ny226 := Aside0.mk hy226
     clear hy226
     have H' := Aside0.mk H
     clear H
     obtain ⟨Ao7, co7, eo7⟩ := Kd.R_slice HO_0.out
     subst eo7
     have p5 : 0 ≤ (x5_1 : Int) := qD
     have q5 : (x5_1 : Int) < ((x0_1.length : Int) : Int) := qD
     obtain ⟨go5, co5, eo5, gb5, gl5, cl5, HG5⟩ := Kd.R_form HO_0.out (by omega)
     (first | cases eo5 | (injection eo5 with ea_ en_ ec_; (first | subst ea_ | (injection ea_ with ea_; subst ea_)); subst ec_; clear en_))
     have GB5 := Aside0.mk gb5
     have GG5 := Aside0.mk HG5
     clear gb5 gl5 HG5
     have HMgo5 := Aside0.mk (show (P0_ go5 ∨ w.heap.size ≤ go5) from (HO_0.out.1 _ rfl))
     obtain ⟨ce5, hcl5, hM5, hcc5, hfr5⟩ := Kd.R_elem HO_0.out z52 (x5_1 : Int) p5 q5
     obtain rfl := k52_openM hM5
     have hx5_0 : wr.cell? ⟨go5, (x5_1 : Int).toNat * 2, none⟩ = some (.int .i64 ((rd_T52 x0_1 x5_1).f0)) := hcc5 0 _ rfl
     have hx5_1 : wr.cell? ⟨go5, (x5_1 : Int).toNat * 2 + 1, none⟩ = some (.int .u64 ((rd_T52 x0_1 x5_1).f1)) := hcc5 1 _ rfl
     have hf5_0 : wr.frozen? ⟨go5, (x5_1 : Int).toNat * 2, none⟩ = false := hfr5 0
     have hf5_1 : wr.frozen? ⟨go5, (x5_1 : Int).toNat * 2 + 1, none⟩ = false := hfr5 1
     clear hcl5 hcc5 hfr5; (try clear hM5)
     replace p5 := eq_true p5
     replace q5 := eq_true q5
     have HX8 := Aside0.mk (show Kd.R k52 52 wr w0.heap.size (fun k_ => (P0_ k_ ∨ w.heap.size ≤ k_)) (.slice (some ⟨go5, 0, none⟩) x0_1.length co7) x0_1 from (qR HO_0.out))
     obtain ⟨ce8, hcl8, hM8, hcc8, hfr8⟩ := Kd.R_elem HX8.out z52 (x5_1 : Int) qD (by have h_ : (x5_1 : Int) < ((x0_1.length : Int) : Int) := qD; first | exact h_ | (have e_ := (Kd.R_reads' HO_0.out).1; omega) | simpa using h_)
     obtain rfl := k52_openM hM8
     have HP8 := Kd.R_seg HX8.out (x5_1 : Int) qD (by have h_ : (x5_1 : Int) < ((x0_1.length : Int) : Int) := qD; first | exact h_ | (have e_ := (Kd.R_reads' HO_0.out).1; omega) | simpa using h_) (seg := [.int .i64 x1_1]) (j := 0) hcl8 hcc8 (show 1 ≤ 2 from by decide) (x' := (⟨x1_1, (rd_T52 x0_1 x5_1).f1⟩ : S52)) (k52_mkM _ _ _ (⟨x1_1, (rd_T52 x0_1 x5_1).f1⟩ : S52) ) (fun _ hk => hk)
     have hx8_0 := hcc8 0 _ rfl
     (try simp only [show (k52).sz = 2 from rfl, Nat.mul_one, Nat.add_zero] at hx8_0)
     have hf8_0 := hfr8 0
     (try simp only [show (k52).sz = 2 from rfl, Nat.mul_one, Nat.add_zero] at hf8_0)
     clear hcl8 hcc8 hfr8; (try clear hM8)
     go_wp2_with (first | ((with_reducible refine gate_store (t := 3) (p := 16) rfl ?_); refine store_event (t := 3) (p := 16) (v := ?vo_w9) (w1 := (wr.setCell ⟨go5, (x5_1 : Int).toNat * 2, none⟩ (.int .i64 x1_1))) ?hg ?ho ?hn ?hr ?_; (case ho => rfl); (case hg => rfl); (case hn => rfl); (case hr => first | (go_simp; done) | (go_simp; rfl)); intro w9 hw; have hg : wr.grownBy w9 (some go5) := (by rw [hw]; exact HP8.2); have hp_ : Kd.R k52 52 w9 w0.heap.size (fun k_ => (P0_ k_ ∨ w.heap.size ≤ k_)) (.slice (some ⟨go5, 0, none⟩) x0_1.length co7) y225 := (by rw [hw, Ny225.out]; exact HP8.1); clear HP8; have n0_ := Aside0.mk (hp_); have n1_ := Aside0.mk ((by rw [hw]; exact below_set (HB.out) GB5.out : Below w0.heap.size w0 w9)); have n2_ := Aside0.mk (Kept.of_grown (S := (fun k_ => P0_ k_)) hg (qH) (fun k_ e_ => (HO_0.out.1 k_ e_))); clear HO_0; clear HB; clear HK; have HO_0 := n0_; have HB := n1_; have HK := n2_; clear n0_ n1_ n2_; clear hg hw hp_; have p6 : 0 ≤ (x5_1 : Int) := qD; have q6 : (x5_1 : Int) < ((x0_1.length : Int) : Int) := qD; obtain ⟨ce6, hcl6, hM6, hcc6, hfr6⟩ := Kd.R_elem HO_0.out z52 (x5_1 : Int) p6 q6; obtain rfl := k52_openM hM6; have hx6_0 : w9.cell? ⟨go5, (x5_1 : Int).toNat * 2, none⟩ = some (.int .i64 ((rd_T52 y225 x5_1).f0)) := hcc6 0 _ rfl; have hx6_1 : w9.cell? ⟨go5, (x5_1 : Int).toNat * 2 + 1, none⟩ = some (.int .u64 ((rd_T52 y225 x5_1).f1)) := hcc6 1 _ rfl; have hf6_0 : w9.frozen? ⟨go5, (x5_1 : Int).toNat * 2, none⟩ = false := hfr6 0; have hf6_1 : w9.frozen? ⟨go5, (x5_1 : Int).toNat * 2 + 1, none⟩ = false := hfr6 1; clear hcl6 hcc6 hfr6; (try clear hM6); replace p6 := eq_true p6; replace q6 := eq_true q6; have HX10 := Aside0.mk (show Kd.R k52 52 w9 w0.heap.size (fun k_ => (P0_ k_ ∨ w.heap.size ≤ k_)) (.slice (some ⟨go5, 0, none⟩) x0_1.length co7) y225 from (qR HO_0.out)); obtain ⟨ce10, hcl10, hM10, hcc10, hfr10⟩ := Kd.R_elem HX10.out z52 (x5_1 : Int) qD (by have h_ : (x5_1 : Int) < ((x0_1.length : Int) : Int) := qD; first | exact h_ | (have e_ := (Kd.R_reads' HO_0.out).1; omega) | simpa using h_); obtain rfl := k52_openM hM10; have HP10 := Kd.R_seg HX10.out (x5_1 : Int) qD (by have h_ : (x5_1 : Int) < ((x0_1.length : Int) : Int) := qD; first | exact h_ | (have e_ := (Kd.R_reads' HO_0.out).1; omega) | simpa using h_) (seg := [.int .u64 (IntKind.u64.wrap (wrap64 (x1_1 + 1)))]) (j := 1) hcl10 hcc10 (show 2 ≤ 2 from by decide) (x' := (⟨(rd_T52 y225 x5_1).f0, IntKind.u64.wrap (wrap64 (x1_1 + 1))⟩ : S52)) (k52_mkM _ _ _ (⟨(rd_T52 y225 x5_1).f0, IntKind.u64.wrap (wrap64 (x1_1 + 1))⟩ : S52) ) (fun _ hk => hk); have hx10_1 := hcc10 1 _ rfl; (try simp only [show (k52).sz = 2 from rfl, Nat.mul_one, Nat.add_zero] at hx10_1); have hf10_1 := hfr10 1; (try simp only [show (k52).sz = 2 from rfl, Nat.mul_one, Nat.add_zero] at hf10_1); clear hcl10 hcc10 hfr10; (try clear hM10)) | ((with_reducible refine gate_store (t := 38) (p := 24) rfl ?_); refine store_event (t := 38) (p := 24) (v := ?vo_w11) (w1 := (w9.setCell ⟨go5, (x5_1 : Int).toNat * 2 + 1, none⟩ (.int .u64 (IntKind.u64.wrap (wrap64 (x1_1 + 1)))))) ?hg ?ho ?hn ?hr ?_; (case ho => rfl); (case hg => rfl); (case hn => rfl); (case hr => first | (go_simp; done) | (go_simp; rfl)); intro w11 hw; have hg : w9.grownBy w11 (some go5) := (by rw [hw]; exact HP10.2); have hp_ : Kd.R k52 52 w11 w0.heap.size (fun k_ => (P0_ k_ ∨ w.heap.size ≤ k_)) (.slice (some ⟨go5, 0, none⟩) x0_1.length co7) y226 := (by rw [hw, Ny226.out]; exact HP10.1); clear HP10; have n0_ := Aside0.mk (hp_); have n1_ := Aside0.mk ((by rw [hw]; exact below_set (HB.out) GB5.out : Below w0.heap.size w0 w11)); have n2_ := Aside0.mk (Kept.of_grown (S := (fun k_ => P0_ k_)) hg (qH) (fun k_ e_ => (HO_0.out.1 k_ e_))); clear HO_0; clear HB; clear HK; have HO_0 := n0_; have HB := n1_; have HK := n2_; clear n0_ n1_ n2_; clear hg hw hp_))
     go_roundg k1
     case measure => have := HK1.out; omega
     case rel => exact ⟨(y226), (wrap64 ((wrap64 (x1_1 + 1)) + 1)), (wrap64 (x5_1 + 1)), qS, qS, H', ⟨by have := HK1.out; omega⟩, ⟨qR HO_0.out⟩, ⟨qH⟩, ⟨qB⟩⟩
    ·rw [if_neg c4] at H
     exact absurd H (by simp)
   ·rw [if_neg c3] at H
    have c3b0 : decide (x5_1 < (x0_1.length : Int)) = false := decide_eq_false c3
    clear c3
    simp only [Option.some.injEq, Prod.mk.injEq] at H
    obtain ⟨rfl, rfl⟩ := H
    obtain ⟨Ao12, co12, eo12⟩ := Kd.R_slice HO_0.out
    subst eo12
    go_wp2
    go_ret
    exact ⟨qE, qR HO_0.out, qB, qH⟩


-- HAND
/-! ### marks0.lean -/
/-- What marking may leave in a cell's place. -/
def sameInt (v v' : Value) : Prop := v' = v ∨ ∃ kd a b, v = .int kd a ∧ v' = .int kd b
theorem sameInt.trans {a b c : Value} (h : sameInt a b) (k : sameInt b c) : sameInt a c := by
 rcases h with rfl | ⟨kd, x, y, rfl, rfl⟩
 ·exact k
 ·rcases k with rfl | ⟨kd', x', y', he, rfl⟩
  ·exact .inr ⟨kd, x, y, rfl, rfl⟩
  ·injection he with h1 h2
   subst h1
   exact .inr ⟨kd, x, y', rfl, rfl⟩
/-- W is w where whole numbers in P's blocks have been written over. -/
structure MK (w W : World) (P : Nat → Prop) : Prop where
 os : W.os = w.os
 tape : W.tape = w.tape
 output : W.output = w.output
 size : w.heap.size ≤ W.heap.size
 out : ∀ k : Nat, k < w.heap.size → ¬ P k → W.heap[k]? = w.heap[k]?
 rows : ∀ (k : Nat) (cs : Array Value) e fr, w.heap[k]? = some (Obj.cells cs e fr) → ∃ cs', W.heap[k]? = some (Obj.cells cs' e fr) ∧ ∀ (j : Nat) (v : Value), cs[j]? = some v → ∃ v', cs'[j]? = some v' ∧ sameInt v v'
theorem MK.refl (w : World) (P : Nat → Prop) : MK w w P := ⟨rfl, rfl, rfl, Nat.le_refl _, fun _ _ _ => rfl, fun _ cs _ _ h => ⟨cs, h, fun _ v hv => ⟨v, hv, .inl rfl⟩⟩⟩
theorem MK.trans {a b c : World} {P : Nat → Prop} (h : MK a b P) (k : MK b c P) : MK a c P := by
 refine ⟨k.os.trans h.os, k.tape.trans h.tape, k.output.trans h.output, Nat.le_trans h.size k.size, fun i hi hn => (k.out i (Nat.lt_of_lt_of_le hi h.size) hn).trans (h.out i hi hn), fun i cs e fr hc => ?_⟩
 obtain ⟨cs1, h1, g1⟩ := h.rows i cs e fr hc
 obtain ⟨cs2, h2, g2⟩ := k.rows i cs1 e fr h1
 refine ⟨cs2, h2, fun j v hv => ?_⟩
 obtain ⟨v1, hv1, s1⟩ := g1 j v hv
 obtain ⟨v2, hv2, s2⟩ := g2 j v1 hv1
 exact ⟨v2, hv2, s1.trans s2⟩
theorem MK.of_below {w W : World} (P : Nat → Prop) (h : Below w.heap.size w W) : MK w W P :=
 ⟨h.os, h.tape, h.output, h.size, fun k hk _ => h.block k hk, fun k cs _ _ hc => ⟨cs, (h.block k (blk_lt hc)).trans hc, fun _ v hv => ⟨v, hv, .inl rfl⟩⟩⟩
theorem MK.drewN {w W : World} {P : Nat → Prop} (h : MK w W P) (n : Nat) : MK w (W.drewN n) P := ⟨h.os, h.tape, h.output, h.size, h.out, h.rows⟩
theorem MK.drew {w W : World} {P : Nat → Prop} (h : MK w W P) : MK w W.drew P := h.drewN 1
theorem MK.kept {w W : World} {P : Nat → Prop} (h : MK w W P) : Kept w W P := ⟨h.size, h.out⟩
theorem MK.below {w0 w W : World} {P : Nat → Prop} (h : MK w W P) (hB : Below w0.heap.size w0 w) (hP : ∀ k, P k → w0.heap.size ≤ k) : Below w0.heap.size w0 W :=
 ⟨h.os.trans hB.os, h.tape.trans hB.tape, h.output.trans hB.output, Nat.le_trans hB.size h.size, fun k hk => (h.out k (Nat.lt_of_lt_of_le hk hB.size) (fun hp => by have := hP k hp; omega)).trans (hB.block k hk)⟩
theorem MK.set {w W : World} {P : Nat → Prop} (h : MK w W P) {g j : Nat} {cs : Array Value} {e : TypeId} {kd : IntKind} {x : Int} (hb : W.heap[g]? = some (.cells cs e (0, 0))) (hc : cs[j]? = some (.int kd x)) (hP : P g) (y : Int) : MK w (W.setCell ⟨g, j, none⟩ (.int kd y)) P := by
 refine h.trans ⟨rfl, rfl, rfl, by simp [World.setCell], fun k hk hn => Below.heap_setCell _ _ _ _ (fun e => hn (by rw [e]; exact hP)), fun k cs1 e1 fr hk => ?_⟩
 by_cases hkg : k = g
 ·subst hkg
  rw [hb] at hk
  injection hk with hk
  injection hk with h1 h2 h3
  subst h1 h2 h3
  refine ⟨_, blk_set hb j _, fun i v hv => ?_⟩
  rw [Array.getElem?_setIfInBounds]
  by_cases hij : j = i
  ·subst hij
   rw [if_pos rfl]
   rw [hc] at hv
   injection hv with hv
   subst hv
   have : j < cs.size := by
    rcases Nat.lt_or_ge j cs.size with h | h
    ·exact h
    ·rw [Array.getElem?_eq_none h] at hc; cases hc
   rw [if_pos this]
   exact ⟨_, rfl, .inr ⟨kd, x, y, rfl, rfl⟩⟩
  ·rw [if_neg hij]
   exact ⟨v, hv, .inl rfl⟩
 ·exact ⟨cs1, (Below.heap_setCell _ _ _ _ hkg).trans hk, fun _ v hv => ⟨v, hv, .inl rfl⟩⟩
/-- A row whose cells are as Q says. -/
def MRow (w : World) (e : Nat) (m : Nat) (P : Nat → Prop) (Q : Nat → Value → Prop) (v : Value) (n : Nat) : Prop :=
 (n = 0 ∧ ∃ A c, v = .slice A 0 c) ∨ ∃ g c cs, v = .slice (some ⟨g, 0, none⟩) n c ∧ w.heap[g]? = some (.cells cs e (0, 0)) ∧ P g ∧ ∀ j, j < m → ∃ x, cs[j]? = some x ∧ Q j x
theorem MRow.move {w W : World} {e m n : Nat} {P P' : Nat → Prop} {Q : Nat → Value → Prop} {v : Value} (h : MRow w e m P Q v n) (hm : MK w W P') (hQ : ∀ j x x', Q j x → sameInt x x' → Q j x') : MRow W e m P Q v n := by
 rcases h with h | ⟨g, c, cs, hv, hb, hp, hq⟩
 ·exact .inl h
 ·obtain ⟨cs', hb', hc'⟩ := hm.rows g cs e _ hb
  refine .inr ⟨g, c, cs', hv, hb', hp, fun j hj => ?_⟩
  obtain ⟨x, hx, qx⟩ := hq j hj
  obtain ⟨x', hx', hs⟩ := hc' j x hx
  exact ⟨x', hx', hQ j x x' qx hs⟩
def isInt (kd : IntKind) (x : Value) : Prop := ∃ y, x = .int kd y
theorem isInt.move {kd : IntKind} {x x' : Value} (h : isInt kd x) (hs : sameInt x x') : isInt kd x' := by
 obtain ⟨y, rfl⟩ := h
 rcases hs with rfl | ⟨kd', a, b, he, rfl⟩
 ·exact ⟨y, rfl⟩
 ·injection he with h1 h2
  subst h1
  exact ⟨b, rfl⟩
theorem slice_move {A : Option Addr} {n c : Nat} {x' : Value} (hs : sameInt (.slice A n c) x') : x' = .slice A n c := by
 rcases hs with rfl | ⟨kd', a, b, he, rfl⟩
 ·rfl
 ·cases he
/-- A row of the call's own, cell by cell. -/
theorem MRow.of_R {α : Type} {d : Kd α} {e base : Nat} {w : World} {P : Nat → Prop} {v : Value} {l : List α} (z : α) (h : d.R e w base P v l) (Q : Nat → Value → Prop)
  (hQ : ∀ i, i < l.length → ∀ c, c.length = d.sz → d.M w base P (l.getD i z) c → ∀ q x, c[q]? = some x → Q (i * d.sz + q) x) : MRow w e (l.length * d.sz) P Q v l.length := by
 rcases Nat.eq_zero_or_pos l.length with h0 | h0
 ·left
  obtain ⟨A, c, hv⟩ := Kd.R_slice h
  exact ⟨h0, A, c, by rw [hv, h0]⟩
 ·right
  obtain ⟨g, c, hv, _, _, cs, hb⟩ := Kd.R_form h h0
  subst hv
  refine ⟨g, c, cs, rfl, hb, h.1 g rfl, fun j hj => ?_⟩
  have hsz : 0 < d.sz := by
   rcases Nat.eq_zero_or_pos d.sz with h1 | h1
   ·rw [h1, Nat.mul_zero] at hj; omega
   ·exact h1
  have hi : j / d.sz < l.length := Nat.div_lt_of_lt_mul (by rw [Nat.mul_comm]; exact hj)
  have hq : j % d.sz < d.sz := Nat.mod_lt _ hsz
  have hj2 : j / d.sz * d.sz + j % d.sz = j := by rw [Nat.mul_comm]; exact Nat.div_add_mod _ _
  obtain ⟨cl, hcl, hM, hcc, _⟩ := Kd.R_elem h z ((j / d.sz : Nat) : Int) (Int.natCast_nonneg _) (Int.ofNat_lt.mpr hi)
  rw [Int.toNat_natCast] at hM hcc
  have hx : cl[j % d.sz]? = some (cl[j % d.sz]'(by rw [hcl]; exact hq)) := List.getElem?_eq_getElem _
  have h1 := hcc _ _ hx
  rw [blk_cell hb, hj2] at h1
  refine ⟨_, h1, ?_⟩
  have h2 := hQ _ hi cl hcl (d.M_mono (fun _ hk => hk.1) hM) _ _ hx
  rw [hj2] at h2
  exact h2


-- HAND
/-! ### marknode.lean -/
def QNode (j : Nat) (x : Value) : Prop := if j % 2 = 0 then isInt .i64 x else isInt .u64 x
theorem QNode.move (j : Nat) (x x' : Value) (h : QNode j x) (hs : sameInt x x') : QNode j x' := by
 unfold QNode at *
 split
 ·rename_i hj; rw [if_pos hj] at h; exact h.move hs
 ·rename_i hj; rw [if_neg hj] at h; exact h.move hs
/-- A row of nodes that may be marked. -/
def MNode (w : World) (P : Nat → Prop) (v : Value) (n : Nat) : Prop := MRow w 52 (n * 2) P QNode v n
theorem MNode.of_R {base : Nat} {w : World} {P : Nat → Prop} {v : Value} {l : List S52} (h : Kd.R k52 52 w base P v l) : MNode w P v l.length :=
 MRow.of_R z52 h QNode (fun i hi c hc hM q x hx => by
  obtain rfl := k52_openM hM
  rcases q with _ | _ | q
  ·injection hx with hx
   subst hx
   show QNode (i * 2 + 0) _
   unfold QNode
   rw [if_pos (by omega)]
   exact ⟨_, rfl⟩
  ·injection hx with hx
   subst hx
   show QNode (i * 2 + 1) _
   unfold QNode
   rw [if_neg (by omega)]
   exact ⟨_, rfl⟩
  ·cases hx)
set_option maxHeartbeats 8000000 in
set_option maxRecDepth 100000 in
theorem markNode_any (P : Nat → Prop) (v : Value) (n : Nat) (a : Int) (w : World) (h : MNode w P v n) (ha : 0 ≤ a) (hn : a + 2 * (n : Int) < 4611686018427387904) :
  Calls Try.prog 15 #[v, .int .i64 a] w fun e w' => e = .returned (.int .i64 (a + 2 * (n : Int))) ∧ MK w w' P := by
 rcases h with ⟨h0, A, c, hv⟩ | ⟨g, c, cs, hv, hb, hp, hq⟩
 ·subst h0
  subst hv
  have e0 : a + 2 * ((0 : Nat) : Int) = a := by omega
  rw [e0]
  clear hn e0
  go_enter Try.func15, Try.ntmps15
  go_wp2
  refine wp_loop_rounds 1 ?_
  rw [rounds_succ]
  go_wp2
  go_ret
  exact ⟨rfl, by repeat (first | exact MK.refl _ _ | apply MK.drewN | apply MK.drew)⟩
 ·subst hv
  have HB0 := Aside0.mk hb
  have HP := Aside0.mk hp
  have HQ := Aside0.mk hq
  have HN := Aside0.mk hn
  have HA := Aside0.mk ha
  clear hb hp hq hn ha
  go_enter Try.func15, Try.ntmps15
  go_wp2
  go_loopg [1, 5] n (fun gg v1 v5 wr => ∃ i : Nat, i ≤ n ∧ n - i ≤ gg ∧ v1 = .int .i64 (a + 2 * (i : Int)) ∧ v5 = .int .i64 i ∧ Aside0 (MK w wr P))
  case atStart => exact ⟨0, Nat.zero_le _, by omega, by simp, rfl, ⟨by repeat (first | exact MK.refl _ _ | apply MK.drewN | apply MK.drew)⟩⟩
  case round =>
   obtain ⟨i, hi, hg, rfl, rfl, HM⟩ := hrel
   by_cases hlt : i < n
   ·have hltz : (i : Int) < (n : Int) := by omega
    obtain ⟨cs', hb', hc'⟩ := HM.out.rows g cs _ _ HB0.out
    obtain ⟨x0, hx0, qx0⟩ := HQ.out (i * 2) (by omega)
    obtain ⟨x1, hx1, qx1⟩ := HQ.out (i * 2 + 1) (by omega)
    obtain ⟨y0, hy0, sy0⟩ := hc' _ _ hx0
    obtain ⟨y1, hy1, sy1⟩ := hc' _ _ hx1
    unfold QNode at qx0 qx1
    rw [if_pos (by omega)] at qx0
    rw [if_neg (by omega)] at qx1
    obtain ⟨m0, rfl⟩ := qx0.move sy0
    obtain ⟨m1, rfl⟩ := qx1.move sy1
    clear hx0 hx1 qx0 qx1 sy0 sy1 hc'
    have hc0 : wr.cell? ⟨g, i * 2, none⟩ = some (.int .i64 m0) := (blk_cell hb' _).trans hy0
    have hf0 : wr.frozen? ⟨g, i * 2, none⟩ = false := blk_frozen hb' _
    have hf1 : wr.frozen? ⟨g, i * 2 + 1, none⟩ = false := blk_frozen hb' _
    have M1 := HM.out.set hb' hy0 HP.out (a + 2 * (i : Int))
    have hb2 := blk_set hb' (i * 2) (.int .i64 (a + 2 * (i : Int)))
    have hy2 : (cs'.setIfInBounds (i * 2) (.int .i64 (a + 2 * (i : Int))))[i * 2 + 1]? = some (.int .u64 m1) := by rw [Array.getElem?_setIfInBounds, if_neg (by omega)]; exact hy1
    have M2 := M1.set hb2 hy2 HP.out (IntKind.u64.wrap (a + 2 * (i : Int) + 1))
    have e1 : wrap64 (a + 2 * (i : Int) + 1) = a + 2 * (i : Int) + 1 := by have := HA.out; have := HN.out; unfold wrap64; omega
    have e2 : wrap64 (a + 2 * (i : Int) + 1 + 1) = a + 2 * ((i + 1 : Nat) : Int) := by have := HA.out; have := HN.out; unfold wrap64; omega
    have e3 : wrap64 ((i : Int) + 1) = ((i + 1 : Nat) : Int) := by have := HA.out; have := HN.out; unfold wrap64; omega
    have hc1 : (wr.setCell ⟨g, i * 2, none⟩ (.int .i64 (a + 2 * (i : Int)))).cell? ⟨g, i * 2 + 1, none⟩ = some (.int .u64 m1) := (blk_cell hb2 _).trans hy2
    have HM2 := Aside0.mk M2
    have E2 := Aside0.mk e2
    have E3 := Aside0.mk e3
    clear hb2 hy2 M1 M2 hb' hy0 hy1 e2 e3
    have p5 := eq_true (show (0 : Int) ≤ (i : Int) from Int.natCast_nonneg _)
    have q5 := eq_true hltz
    go_wp2
    go_roundg (n - (i + 1))
    case measure => omega
    case rel => exact ⟨i + 1, by omega, by omega, by first | exact congrArg _ E2.out | (rw [E2.out]), by first | exact congrArg _ E3.out | (rw [E3.out]), by repeat (first | exact HM2 | apply MK.drewN | apply MK.drew)⟩
   ·have hltz : ¬ (i : Int) < (n : Int) := by omega
    obtain rfl : i = n := by omega
    go_wp2
    go_ret
    exact ⟨rfl, by repeat (first | exact HM.out | apply MK.drewN | apply MK.drew)⟩


-- HAND
/-! ### laws_markNodeSS: function 16 -/
theorem ssForm {w : World} {P : Nat → Prop} {v : Value} {n : Nat} (h : MNode w P v n) : ∃ A c, v = .slice A n c := by
 rcases h with ⟨rfl, A, c, hv⟩ | ⟨g, c, cs, hv, _⟩
 ·exact ⟨A, c, hv⟩
 ·exact ⟨_, c, hv⟩
/-- How many cells are marked. -/
def ssCnt (l : List (List S52)) : Nat := (l.map fun x => 2 * x.length).sum
theorem ssCnt_take (l : List (List S52)) (i : Nat) (h : i < l.length) : ssCnt (l.take (i + 1)) = ssCnt (l.take i) + 2 * l[i].length := by
 unfold ssCnt
 rw [List.take_add_one, List.getElem?_eq_getElem h, Option.toList_some, List.map_append, List.sum_append]
 simp
theorem ssCnt_le (l : List (List S52)) (i : Nat) : ssCnt (l.take i) ≤ ssCnt l := by
 conv => rhs; rw [← List.take_append_drop i l]
 unfold ssCnt
 rw [List.map_append, List.sum_append]
 omega
def QSS (w : World) (P : Nat → Prop) (l : List (List S52)) (j : Nat) (x : Value) : Prop := MNode w P x (l.getD j []).length
theorem QSS.move {w : World} {P : Nat → Prop} {l : List (List S52)} (j : Nat) (x x' : Value) (h : QSS w P l j x) (hs : sameInt x x') : QSS w P l j x' := by
 unfold QSS at *
 obtain ⟨A, c, rfl⟩ := ssForm h
 obtain rfl := slice_move hs
 exact h
/-- A row of rows of nodes that may be marked. -/
def MNodeSS (w : World) (P : Nat → Prop) (v : Value) (l : List (List S52)) : Prop := MRow w 26 (l.length * 1) P (QSS w P l) v l.length
theorem MNodeSS.of_R {base : Nat} {w : World} {P : Nat → Prop} {v : Value} {l : List (List S52)} (h : Kd.R (Kd.slice 52 k52) 26 w base P v l) : MNodeSS w P v l :=
 MRow.of_R [] h (QSS w P l) (fun i hi c hc hM q x hx => by
  obtain ⟨v0, rfl, hv0⟩ := hM
  rcases q with _ | q
  ·injection hx with hx
   subst hx
   show QSS w P l (i * 1 + 0) _
   unfold QSS
   rw [show i * 1 + 0 = i by omega]
   exact MNode.of_R hv0
  ·cases hx)
set_option maxHeartbeats 8000000 in
set_option maxRecDepth 100000 in
theorem markNodeSS_any (P : Nat → Prop) (v : Value) (l : List (List S52)) (a : Int) (w W : World) (h : MNodeSS w P v l) (hW : MK w W P) (ha : 0 ≤ a) (hn : a + (ssCnt l : Int) < 4611686018427387904) (hl : l.length < 4611686018427387904) :
  Calls Try.prog 16 #[v, .int .i64 a] W fun e w' => e = .returned (.int .i64 (a + (ssCnt l : Int))) ∧ MK w w' P := by
 rcases h with ⟨h0, A, c, hv⟩ | ⟨g, c, cs, hv, hb, hp, hq⟩
 ·obtain rfl : l = [] := List.eq_nil_of_length_eq_zero h0
  subst hv
  have e0 : a + (ssCnt [] : Int) = a := by show a + ((0 : Nat) : Int) = a; omega
  rw [e0]
  have HM := Aside0.mk hW
  clear hn e0 h0 hl hW
  go_enter Try.func16, Try.ntmps16
  go_wp2
  refine wp_loop_rounds 1 ?_
  rw [rounds_succ]
  go_wp2
  go_ret
  exact ⟨rfl, by repeat (first | exact HM.out | apply MK.drewN | apply MK.drew)⟩
 ·subst hv
  have HB0 := Aside0.mk hb
  have HQ := Aside0.mk hq
  have HN := Aside0.mk hn
  have HA := Aside0.mk ha
  have HL := Aside0.mk hl
  have HM0 := Aside0.mk hW
  clear hb hp hq hn ha hl hW
  go_enter Try.func16, Try.ntmps16
  go_wp2
  go_loopg [1, 5] l.length (fun gg v1 v5 wr => ∃ i : Nat, i ≤ l.length ∧ l.length - i ≤ gg ∧ v1 = .int .i64 (a + (ssCnt (l.take i) : Int)) ∧ v5 = .int .i64 i ∧ Aside0 (MK w wr P))
  case atStart => exact ⟨0, Nat.zero_le _, by omega, by show _ = Value.int .i64 (a + ((0 : Nat) : Int)); simp, rfl, ⟨by repeat (first | exact HM0.out | apply MK.drewN | apply MK.drew)⟩⟩
  case round =>
   clear HM0
   obtain ⟨i, hi, hg, rfl, rfl, HM⟩ := hrel
   by_cases hlt : i < l.length
   ·have hltz : (i : Int) < (l.length : Int) := by omega
    have hcn := ssCnt_take l i hlt
    have hcl := ssCnt_le l (i + 1)
    obtain ⟨q, hqq⟩ : ∃ q, a + (ssCnt (l.take i) : Int) = q := ⟨_, rfl⟩
    have hq0 : 0 ≤ q := by have := HA.out; omega
    have hq1 : q + 2 * (l[i].length : Int) < 4611686018427387904 := by have := HN.out; omega
    have hq2 : q + 2 * (l[i].length : Int) = a + (ssCnt (l.take (i + 1)) : Int) := by omega
    rw [hqq]
    clear hqq hcn hcl
    obtain ⟨cs', hb', hc'⟩ := HM.out.rows g cs _ _ HB0.out
    obtain ⟨x0, hx0, qx0⟩ := HQ.out i (by omega)
    obtain ⟨y0, hy0, sy0⟩ := hc' _ _ hx0
    have qx0' := QSS.move _ _ _ qx0 sy0
    clear qx0 sy0 hx0 hc'
    unfold QSS at qx0'
    rw [List.getD_eq_getElem?_getD, List.getElem?_eq_getElem hlt, Option.getD_some] at qx0'
    obtain ⟨wn, hwn⟩ : ∃ n, l[i].length = n := ⟨_, rfl⟩
    rw [hwn] at hq1 hq2 qx0'
    clear hwn
    obtain ⟨A0, c0, rfl⟩ := ssForm qx0'
    have hc0 : wr.cell? ⟨g, i, none⟩ = some (.slice A0 wn c0) := (blk_cell hb' _).trans hy0
    have e3 : wrap64 ((i : Int) + 1) = ((i + 1 : Nat) : Int) := by have := HL.out; unfold wrap64; omega
    have QN := Aside0.mk qx0'
    have HQ1 := Aside0.mk hq1
    have HQ2 := Aside0.mk hq2
    have HQ0 := Aside0.mk hq0
    have E3 := Aside0.mk e3
    clear hb' hy0 e3 hq0 hq1 hq2 qx0'
    have p5 := eq_true (show (0 : Int) ≤ (i : Int) from Int.natCast_nonneg _)
    have q5 := eq_true hltz
    go_wp2_with (go_at_call 15; (refine (markNode_any P _ wn q _ ?side1 ?side2 ?side3).mono ?_); (case side1 => exact MRow.move QN.out (by repeat (first | exact HM.out | apply MK.drewN | apply MK.drew)) QNode.move); (case side2 => exact HQ0.out); (case side3 => exact HQ1.out); rintro e w2 ⟨rfl, hm⟩; have HM2 := Aside0.mk (HM.out.trans hm); clear hm)
    go_roundg (l.length - (i + 1))
    case measure => omega
    case rel => exact ⟨i + 1, by omega, by omega, by first | exact congrArg _ HQ2.out | (rw [HQ2.out]), by first | exact congrArg _ E3.out | (rw [E3.out]), by repeat (first | exact HM2 | apply MK.drewN | apply MK.drew)⟩
   ·have hltz : ¬ (i : Int) < (l.length : Int) := by omega
    obtain rfl : i = l.length := by omega
    rw [List.take_length]
    go_wp2
    go_ret
    exact ⟨rfl, by repeat (first | exact HM.out | apply MK.drewN | apply MK.drew)⟩
/-- A flat row whose block is none of those that may have turned. -/
theorem R_keepP {α : Type} {d : Kd α} {e base : Nat} {ok S : Nat → Prop} {W W2 : World} {v : Value} {xs : List α} (hE : d.E = []) (h : d.R e W base ok v xs) (hk : Kept W W2 S) (hne : ∀ k, v.ownBlock = some k → ¬ S k) : d.R e W2 base ok v xs :=
 Kd.R_reok hE (Kd.R_keptB (Kd.R_tight hE h) hk (fun k e_ => hne k e_.symm)) (fun k e_ => h.1 k e_)
/-- 'markNodeSS': the number behind the last. -/
def laws_markNodeSS.f (l : List (List S52)) (a : Int) : Option Int :=
 if 0 ≤ a ∧ a + (ssCnt l : Int) < 4611686018427387904 ∧ l.length < 4611686018427387904 then some (a + (ssCnt l : Int)) else none
set_option maxHeartbeats 8000000 in
theorem laws_markNodeSS.calls (P : Nat → Prop) (u : Value) (l : List (List S52)) (a r1 : Int) (w0 w : World) (hB : Below w0.heap.size w0 w)
  (ho : Kd.R (Kd.slice 52 k52) 26 w w0.heap.size P u l) (h : laws_markNodeSS.f l a = some r1) :
  Calls Try.prog 16 #[u, .int .i64 a] w fun e w' => e = .returned (.int .i64 r1) ∧ Below w0.heap.size w0 w' ∧ Kept w w' (fun k => P k ∧ w0.heap.size ≤ k) := by
 unfold laws_markNodeSS.f at h
 split at h
 case isFalse => cases h
 rename_i hc
 obtain ⟨h0, h1, h2⟩ := hc
 obtain rfl := Option.some.inj h
 have r2 : Kd.R (Kd.slice 52 k52) 26 w w0.heap.size (fun k => P k ∧ w0.heap.size ≤ k) u l := Kd.R_mono (Kd.R_bound ho) (fun k hk => ⟨hk.1, hk.2.1⟩)
 refine (markNodeSS_any (fun k => P k ∧ w0.heap.size ≤ k) u l a w w (MNodeSS.of_R r2) (MK.refl _ _) h0 h1 h2).mono ?_
 rintro e w' ⟨he, hm⟩
 exact ⟨he, hm.below hB (fun k hk => hk.2), hm.kept⟩


/-! ### laws_heldNodeS: function 17 -/
def laws_heldNodeS.l0 : Nat → List (S52) → Int → Int → Option (Int)
 | 0, _, _, _ => none
 | k + 1, x0, x1, x5 => if x5 < (x0.length : Int) then (if 0 ≤ x5 then (if ((rd_T52 x0 x5).f0) = x1 then (if ((rd_T52 x0 x5).f1) = (IntKind.u64.wrap (wrap64 (x1 + 1))) then (laws_heldNodeS.l0 k x0 (wrap64 ((wrap64 (x1 + 1)) + 1)) (wrap64 (x5 + 1))) else (some (-1))) else (some (-1))) else (none)) else (some x1)
def laws_heldNodeS.f (k : Nat) (l0 : List (S52)) (a1 : Int) : Option (Int) := laws_heldNodeS.l0 k l0 a1 0
theorem laws_heldNodeS.mono_l : ∀ k, (∀ y0 y1 y2, LeO (laws_heldNodeS.l0 k y0 y1 y2) (laws_heldNodeS.l0 (k + 1) y0 y1 y2))
 | 0 => fun _ _ _ r h => by simp [laws_heldNodeS.l0] at h
 | k + 1 => by
  have ih0 := laws_heldNodeS.mono_l k
  ·intro y0 y1 y2
   unfold laws_heldNodeS.l0
   repeat' first
   | (with_reducible exact ih0 _ _ _)
   | (with_reducible first | exact LeO.refl _ | exact LeO.none _ | refine LeO.ite ?_ ?_ | refine LeO.bind ?_ (fun _ => ?_))
   | exact ih0 _ _ _
   | exact LeO.none _ | refine LeO.ite ?_ ?_ | refine LeO.bind ?_ (fun _ => ?_)
theorem laws_heldNodeS.mono : ∀ a0 a1 k, LeO (laws_heldNodeS.f k a0 a1) (laws_heldNodeS.f (k + 1) a0 a1) := by
 intro a0 a1 k
 have ih0 := laws_heldNodeS.mono_l k
 unfold laws_heldNodeS.f
 repeat' first
   | (with_reducible exact ih0 _ _ _)
   | (with_reducible first | exact LeO.refl _ | exact LeO.none _ | refine LeO.ite ?_ ?_ | refine LeO.bind ?_ (fun _ => ?_))
   | exact ih0 _ _ _
   | exact LeO.none _ | refine LeO.ite ?_ ?_ | refine LeO.bind ?_ (fun _ => ?_)
set_option maxHeartbeats 8000000 in
set_option maxRecDepth 100000 in
theorem laws_heldNodeS.calls (k : Nat) (A0 : Option Addr) (c0 : Nat) (l0 : List (S52)) (a1 : Int) (r : Int) (w : World) (hr0 : Kd.C k52 w A0 l0.length l0) (hc0 : l0.length ≤ c0) (h : laws_heldNodeS.f k l0 a1 = some r) :
  Calls Try.prog 17 #[.slice A0 l0.length c0, .int .i64 a1] w fun e w' => e = .returned (.int .i64 r) ∧ Drawn0 w w' := by
 have HR0 := Aside0.mk hr0
 have HC0 := Aside0.mk hc0
 clear hr0 hc0
 have H : (laws_heldNodeS.l0 k l0 a1 0) = some r := h
 clear h
 have H' := Aside0.mk H
 clear H
 go_enter Try.func17, Try.ntmps17
 go_wp2
 go_loopg [1, 5] k (fun kq v1 v5 w' => ∃ (x1_1 : Int) (x5_1 : Int), v1 = .int .i64 x1_1 ∧ v5 = .int .i64 x5_1 ∧ Aside0 (laws_heldNodeS.l0 kq l0 x1_1 x5_1 = some r) ∧ Aside0 (kq ≤ k) ∧ Drawn0 w w')
 case atStart => exact ⟨(a1), (0), qS, qS, H', ⟨Nat.le_refl _⟩, by repeat (first | exact Drawn0.refl _ | apply Drawn0.step)⟩
 case round =>
  clear H'
  try clear c1
  try clear p2
  obtain ⟨x1_1, x5_1, rfl, rfl, HA, HK1, ⟨m1, rfl⟩⟩ := hrel
  cases gk with
  | zero => exact absurd HA.out (by simp [laws_heldNodeS.l0])
  | succ k1 =>
   have H := HA.out
   clear HA
   simp only [laws_heldNodeS.l0] at H
   by_cases c3 : x5_1 < (l0.length : Int)
   ·rw [if_pos c3] at H
    have c3b0 : decide (x5_1 < (l0.length : Int)) = true := decide_eq_true c3
    clear c3
    by_cases c4 : 0 ≤ x5_1
    ·rw [if_pos c4] at H
     have c4b0 : decide (0 ≤ x5_1) = true := decide_eq_true c4
     clear c4
     by_cases c5 : ((rd_T52 l0 x5_1).f0) = x1_1
     ·rw [if_pos c5] at H
      have c5b0 : (((rd_T52 l0 x5_1).f0) == x1_1) = true := beq_iff_eq.mpr c5
      have c5b1 : (((rd_T52 l0 x5_1).f0) != x1_1) = false := bne_eq_false_iff_eq.mpr c5
      clear c5
      by_cases c6 : ((rd_T52 l0 x5_1).f1) = (IntKind.u64.wrap (wrap64 (x1_1 + 1)))
      ·rw [if_pos c6] at H
       have c6b0 : (((rd_T52 l0 x5_1).f1) == (IntKind.u64.wrap (wrap64 (x1_1 + 1)))) = true := beq_iff_eq.mpr c6
       have c6b1 : (((rd_T52 l0 x5_1).f1) != (IntKind.u64.wrap (wrap64 (x1_1 + 1)))) = false := bne_eq_false_iff_eq.mpr c6
       clear c6
       have H' := Aside0.mk H
       clear H
       have p227 : 0 ≤ (x5_1 : Int) := qD
       have q227 : x5_1 < (l0.length : Int) := qD
       obtain ⟨ad227, e227, hx227_0, hx227_1⟩ := at_T52 HR0.out x5_1 p227 q227
       cases e227
       replace p227 := eq_true p227
       replace q227 := eq_true q227
       have p228 : 0 ≤ (x5_1 : Int) := qD
       have q228 : x5_1 < (l0.length : Int) := qD
       obtain ⟨ad228, e228, hx228_0, hx228_1⟩ := at_T52 HR0.out x5_1 p228 q228
       obtain rfl : ad227 = ad228 := (by injection e228)
       replace p228 := eq_true p228
       replace q228 := eq_true q228
       go_wp2
       go_roundg k1
       case measure => have := HK1.out; omega
       case rel => exact ⟨(wrap64 ((wrap64 (x1_1 + 1)) + 1)), (wrap64 (x5_1 + 1)), qS, qS, H', ⟨by have := HK1.out; omega⟩, by repeat (first | exact Drawn0.refl _ | apply Drawn0.step)⟩
      ·rw [if_neg c6] at H
       have c6b0 : (((rd_T52 l0 x5_1).f1) == (IntKind.u64.wrap (wrap64 (x1_1 + 1)))) = false := beq_eq_false_iff_ne.mpr c6
       have c6b1 : (((rd_T52 l0 x5_1).f1) != (IntKind.u64.wrap (wrap64 (x1_1 + 1)))) = true := bne_iff_ne.mpr c6
       obtain rfl := Option.some.inj H
       have p227 : 0 ≤ (x5_1 : Int) := qD
       have q227 : x5_1 < (l0.length : Int) := qD
       obtain ⟨ad227, e227, hx227_0, hx227_1⟩ := at_T52 HR0.out x5_1 p227 q227
       cases e227
       replace p227 := eq_true p227
       replace q227 := eq_true q227
       have p228 : 0 ≤ (x5_1 : Int) := qD
       have q228 : x5_1 < (l0.length : Int) := qD
       obtain ⟨ad228, e228, hx228_0, hx228_1⟩ := at_T52 HR0.out x5_1 p228 q228
       obtain rfl : ad227 = ad228 := (by injection e228)
       replace p228 := eq_true p228
       replace q228 := eq_true q228
       go_wp2
       go_ret
       exact ⟨by first | rfl | (simp; done) | (simp [*]; done), by repeat (first | exact Drawn0.refl _ | apply Drawn0.step)⟩
     ·rw [if_neg c5] at H
      have c5b0 : (((rd_T52 l0 x5_1).f0) == x1_1) = false := beq_eq_false_iff_ne.mpr c5
      have c5b1 : (((rd_T52 l0 x5_1).f0) != x1_1) = true := bne_iff_ne.mpr c5
      obtain rfl := Option.some.inj H
      have p227 : 0 ≤ (x5_1 : Int) := qD
      have q227 : x5_1 < (l0.length : Int) := qD
      obtain ⟨ad227, e227, hx227_0, hx227_1⟩ := at_T52 HR0.out x5_1 p227 q227
      cases e227
      replace p227 := eq_true p227
      replace q227 := eq_true q227
      go_wp2
      go_ret
      exact ⟨by first | rfl | (simp; done) | (simp [*]; done), by repeat (first | exact Drawn0.refl _ | apply Drawn0.step)⟩
    ·rw [if_neg c4] at H
     exact absurd H (by simp)
   ·rw [if_neg c3] at H
    have c3b0 : decide (x5_1 < (l0.length : Int)) = false := decide_eq_false c3
    clear c3
    obtain rfl := Option.some.inj H
    go_wp2
    go_ret
    exact ⟨by first | rfl | (simp; done) | (simp [*]; done), by repeat (first | exact Drawn0.refl _ | apply Drawn0.step)⟩

end Go.Proofs.Ytckdgmbmjfhodaa.X
