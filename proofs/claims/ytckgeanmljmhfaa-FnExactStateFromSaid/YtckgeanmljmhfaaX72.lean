/- Go functions as Lean functions, each with the proof that its call comes to just its answer. Conditions: the arguments are of their kinds. -/
import Derived.Test.YtckgeanmljmhfaaX0
import Derived.Test.YtckgeanmljmhfaaX1
import Derived.Test.YtckgeanmljmhfaaX68
namespace Go.Proofs.Ytckgeanmljmhfaa.X
open Go.RowKit Go.Proofs.YtckgeanmljmhfaaW.PrintWords Go.Proofs.YtckgeanmljmhfaaW.PrintLast Go.Proofs.YtckgeanmljmhfaaW.PrintMore
attribute [local go_sem] max2_int min2_int max_two min_two max_three min_three max_four min_four   -- for this text's walks alone
set_option linter.unusedVariables false
set_option linter.unusedSimpArgs false

-- HAND
/-! ### impl_StateFrom: function 31 -/
attribute [local go_sem] Oper.semAt_some
/-- A slice and a length boxed; the iterator captures both. -/
theorem ch_chunk (A : Option Addr) (len cap wd : Nat) (hw : 1 ≤ wd) (w : World) :
  Calls Try.prog 59 #[.slice A len cap, .int .i64 (wd : Int)] w fun e w' => e = .returned (.func (.func 90) #[] #[.pointer (some ⟨w.heap.size, 0, none⟩), .pointer (some ⟨w.heap.size + 1, 0, none⟩)]) ∧ w' = (w.alloc (.cells #[.slice A len cap] 46)).alloc (.cells #[.int .i64 (wd : Int)] 3) := by
 have hd : decide ((wd : Int) < 1) = false := decide_eq_false (by omega)
 go_enter Try.func59, Try.ntmps59
 go_wp2
 go_ret
 exact ⟨rfl, rfl⟩
/-- The chunks of wd bits. -/
def chChunks (wd : Nat) (l : List Bool) (m : Nat) : List (List Bool) := (List.range m).map fun j => (l.drop (j * wd)).take wd
def chWords : List (List Bool) → Option (List Int)
 | [] => some []
 | c :: r => (impl_wordOf.f 10 c).bind fun x => (chWords r).bind fun s => some (x :: s)
def chGood (a0 : Int) (n : Nat) : Bool := decide (1 ≤ a0) && (decide (a0 ≤ 4) && (decide ((n : Int) % a0 = 0) && (decide (1 ≤ (n : Int) / a0) && decide ((n : Int) / a0 ≤ 4))))
/-- 'StateFrom': the words of the chunks. -/
def impl_StateFrom.f (a0 : Int) (l1 : List Bool) : Option (List Int × Bool) :=
 if chGood a0 l1.length = true then (chWords (chChunks a0.toNat l1 (l1.length / a0.toNat))).bind fun s => some (s, true) else some ([], false)
theorem chWords_at (cs : List (List Bool)) : ∀ {s : List Int}, chWords cs = some s → s.length = cs.length ∧ ∀ j (h : j < cs.length) (h2 : j < s.length), impl_wordOf.f 10 cs[j] = some s[j] := by
 induction cs with
 | nil => intro s h; cases h; exact ⟨rfl, fun j h => absurd h (by simp)⟩
 | cons c r ih =>
  intro s h
  unfold chWords at h
  obtain ⟨x, hx, h⟩ := Option.bind_eq_some_iff.1 h
  obtain ⟨t, ht, h⟩ := Option.bind_eq_some_iff.1 h
  cases h
  obtain ⟨h1, h2⟩ := ih ht
  refine ⟨by simp [h1], fun j hj hj2 => ?_⟩
  cases j with
  | zero => exact hx
  | succ j => exact h2 j (by simpa using hj) (by simpa using hj2)
theorem ch_div (n wd : Nat) (h : n ≤ 9223372036854775807) : wrap64 ((n : Int) / (wd : Int)) = (n : Int) / (wd : Int) := by
 have h1 : (0 : Int) ≤ (n : Int) / (wd : Int) := Int.ediv_nonneg (by omega) (by omega)
 have h2 : (n : Int) / (wd : Int) ≤ (n : Int) := Int.ediv_le_self _ (by omega)
 unfold wrap64
 omega
theorem ch_own_R {α β : Type} {d : Kd α} {e base : Nat} {ok : Nat → Prop} {g t : Nat} (f : β → List α) : Own (fun (s : β) W => ∃ v, W.heap[g]? = some (Obj.cells #[v] t (0, 0)) ∧ Kd.R d e W base ok v (f s)) := fun s W W' row h hg hr => by
 obtain ⟨v, hb, h⟩ := h
 refine ⟨v, (hg.block g (blk_lt hb) (fun he => ?_)).trans hb, Kd.R_mono (Kd.R_move (Kd.R_bound h) (fun k hk => ?_)) (fun _ hk => hk.1)⟩
 ·obtain ⟨o, ho, hn⟩ := hr g he.symm
  rw [hb] at ho
  cases ho
  cases hn
 ·obtain ⟨_, _, hlt, q, _, cells, hc⟩ := hk
  refine hg.block k hlt (fun he => ?_)
  obtain ⟨o, ho, hn⟩ := hr k he.symm
  rw [hc] at ho
  cases ho
  cases hn
theorem ch_kf_below {B : Nat} {W W' : World} (h : Below W.heap.size W W') : KeepsFrom B W W' := ⟨h.size, fun k o _ hk _ => (h.block k (Array.getElem?_eq_some_iff.1 hk).1).trans hk⟩
theorem ch_kf_grown {B : Nat} {W W' : World} {row : Option Nat} (h : W.grownBy W' row) (hrow : ∀ k, row = some k → ∃ cells t, W.heap[k]? = some (Obj.cells cells t (0, 0))) : KeepsFrom B W W' :=
 ⟨h.size, fun k o _ hk ho => (h.block k (Array.getElem?_eq_some_iff.1 hk).1 (fun e => by
  obtain ⟨cells, t, hc⟩ := hrow k e.symm
  rw [hc] at hk
  cases hk
  cases ho)).trans hk⟩
theorem chKp.of_grown {N : Nat} {P : Nat → Prop} {W W' : World} {row : Option Nat} (h : W.grownBy W' row) (hN : N ≤ W.heap.size) (hr : ∀ k, row = some k → P k ∨ N ≤ k) : chKp N P W W' :=
 ⟨h.size, fun i hi hp => h.block i (Nat.lt_of_lt_of_le hi hN) (fun e => (hr i e.symm).elim hp (fun h2 => by omega))⟩
theorem ch_own_size {β : Type} (n : Nat) : Own (fun (_ : β) W => n ≤ W.heap.size) := fun _ _ _ _ h hg _ => Nat.le_trans h hg.size
theorem chKp.of_below {N : Nat} {P : Nat → Prop} {W W' : World} (h : Below W.heap.size W W') (hN : N ≤ W.heap.size) : chKp N P W W' := ⟨h.size, fun i hi _ => h.block i (Nat.lt_of_lt_of_le hi hN)⟩
theorem chKp.put {N : Nat} {P : Nat → Prop} (W : World) (l : Nat) (o o' : Obj) (hl : N ≤ l) (h : W.heap[l]? = some o) : chKp N P W (W.putObj l o') := by
 have hg := grownBy_putObj' W l o'
 have hlt := (Array.getElem?_eq_some_iff.1 h).1
 exact ⟨hg.size, fun i hi _ => hg.block i (by omega) (fun e => by cases e; omega)⟩
set_option maxRecDepth 100000 in
set_option maxHeartbeats 16000000 in
theorem impl_StateFrom.calls (a0 : Int) (A1 : Option Addr) (c1 : Nat) (l1 : List Bool) (r1 : List Int) (r2 : Bool) (w : World) (hr1 : Kd.C Kd.bool w A1 l1.length l1) (hc1 : l1.length ≤ c1) (h : impl_StateFrom.f a0 l1 = some (r1, r2)) :
  Calls Try.prog 31 #[.int .i64 a0, .slice A1 l1.length c1] w fun e w' => ∃ v0_ : Value, e = .returned (.tuple #[v0_, .bool r2]) ∧ Kd.R (Kd.int .u64) 40 w' w.heap.size (fun _ => True) v0_ r1 ∧ Below w.heap.size w w' := by
 have hm1 : l1.length ≤ 9223372036854775807 := by have := hr1.2.1; unfold maxLen at this; omega
 have HR1 := Aside0.mk hr1
 have HC1 := Aside0.mk hc1
 clear hr1 hc1
 unfold impl_StateFrom.f at h
 by_cases hg : chGood a0 l1.length = true
 ·rw [if_pos hg] at h
  obtain ⟨s, hs, h⟩ := Option.bind_eq_some_iff.1 h
  cases h
  unfold chGood at hg
  simp only [Bool.and_eq_true, decide_eq_true_eq] at hg
  obtain ⟨g1, g4, gm, gv1, gv4⟩ := hg
  obtain ⟨wd, rfl⟩ : ∃ wd : Nat, a0 = (wd : Int) := ⟨a0.toNat, by omega⟩
  have hmb : (((l1.length : Int) % (wd : Int)) != 0) = false := by rw [gm]; rfl
  have AL : Aside0 (impl_isLaid.f (wd : Int) = some true) := ⟨by unfold impl_isLaid.f; rw [if_pos (by omega), decide_eq_true (by omega)]⟩
  have A2 : Aside0 (impl_isVars.f (wrap64 ((l1.length : Int) / (wd : Int))) = some true) := ⟨by
   rw [ch_div l1.length wd hm1]
   unfold impl_isVars.f
   rw [if_pos (by omega), decide_eq_true (by omega)]⟩
  obtain ⟨m, hm⟩ : ∃ m : Nat, (m : Int) = (l1.length : Int) / (wd : Int) := ⟨((l1.length : Int) / (wd : Int)).toNat, by omega⟩
  have hlm : l1.length = m * wd := by
   have h1 := Int.mul_ediv_add_emod (l1.length : Int) (wd : Int)
   rw [gm, ← hm, Int.add_zero, Int.mul_comm] at h1
   have h2 : ((m * wd : Nat) : Int) = (l1.length : Int) := by rw [Int.natCast_mul]; exact h1
   omega
  have hmn : l1.length / (wd : Int).toNat = m := by
   rw [Int.toNat_natCast, hlm]
   exact Nat.mul_div_cancel _ (by omega)
  rw [hmn, Int.toNat_natCast] at hs
  have hm4 : m ≤ 4 := by omega
  have hm0 : 1 ≤ m := by omega
  have hb16 : l1.length ≤ 16 := by rw [hlm]; exact Nat.le_trans (Nat.mul_le_mul hm4 (show wd ≤ 4 by omega)) (by decide)
  have HS := Aside0.mk hs
  have HLM := Aside0.mk hlm
  have hw1 : 1 ≤ wd := by omega
  have hwz : decide ((wd : Int) = 0) = false := decide_eq_false (by omega)
  have hwn : ¬ wd = 0 := by omega
  have hw4 : wd ≤ 4 := by omega
  have hlpos : 0 < l1.length := by rw [hlm]; exact Nat.mul_pos (by omega) (by omega)
  obtain ⟨ad, hA⟩ : ∃ ad, A1 = some ad := by
   obtain ⟨ad, e, _⟩ := Kd.at_bool HR1.out 0 (by omega) (by omega)
   exact ⟨ad, e⟩
  clear gm gv1 gv4 hm hmn hs hlm h
  subst hA
  have HB := Aside0.mk (Below.refl w.heap.size w)
  have HML := Aside0.mk hm1
  clear hm1
  refine (callsIn_wide (n := 8)).1 ?_
  refine callsIn_of_wp_marks Try.func31 rfl trivial ?_ rfl
  simp only [Try.ntmps31, List.size_toArray, List.length_cons, List.length_nil, Nat.reduceAdd, Nat.reduceSub, Array.replicate_succ, Array.replicate_zero, List.push_toArray, List.append_toArray, List.nil_append, List.cons_append]
  refine wpIn_wide.2 ?_
  go_wp2_with (first | (go_at_call 38; (with_reducible refine (impl_isLaid.calls _ _ _ AL.out).mono ?_); rintro e w1 ⟨rfl, ⟨nd, rfl⟩⟩) | (go_at_call 58; (with_reducible refine (impl_isVars.calls _ _ _ A2.out).mono ?_); rintro e w1 ⟨rfl, ⟨nd2, rfl⟩⟩) | (go_at_call 59; (with_reducible refine (ch_chunk _ _ _ wd hw1 _).mono ?_); rintro e w7 ⟨rfl, hw7⟩; have HW7 := Aside0.mk hw7; clear hw7))
  have hsz : w7.heap.size = w.heap.size + 4 := by rw [HW7.out]; simp
  have BK6 : w7.heap[w.heap.size + 1]? = some (.cells #[.slice (some ⟨w.heap.size, 0, none⟩) 0 0] 39 (0, 0)) := by
   rw [HW7.out]
   refine blk_alloc (blk_alloc ?_ _) _
   have := blk_new ((w.drewN (nd + nd2)).alloc (.cells #[] 40)) (.cells #[.slice (some ⟨w.heap.size, 0, none⟩) 0 0] 39)
   simpa using this
  have BKS : w7.heap[w.heap.size + 2]? = some (.cells #[.slice (some ad) l1.length c1] 46 (0, 0)) := by
   rw [HW7.out]
   refine blk_alloc ?_ _
   have := blk_new (((w.drewN (nd + nd2)).alloc (.cells #[] 40)).alloc (.cells #[.slice (some ⟨w.heap.size, 0, none⟩) 0 0] 39)) (.cells #[.slice (some ad) l1.length c1] 46)
   simpa using this
  have BKN : w7.heap[w.heap.size + 3]? = some (.cells #[.int .i64 (wd : Int)] 3 (0, 0)) := by
   rw [HW7.out]
   have := blk_new ((((w.drewN (nd + nd2)).alloc (.cells #[] 40)).alloc (.cells #[.slice (some ⟨w.heap.size, 0, none⟩) 0 0] 39)).alloc (.cells #[.slice (some ad) l1.length c1] 46)) (.cells #[.int .i64 (wd : Int)] 3)
   simpa using this
  have HB7 : Below w.heap.size w w7 := by
   rw [HW7.out]
   repeat (first | exact Below.refl _ _ | apply below_alloc | apply pw_below_drewN)
  have HO7 : Kd.R (Kd.int .u64) 40 w7 w.heap.size (fun k => k = w.heap.size ∨ w7.heap.size ≤ k) (.slice (some ⟨w.heap.size, 0, none⟩) 0 0) ([] : List Int) := by
   refine Kd.R_mono (ok := fun k => k = w.heap.size) ?_ (fun _ hk => .inl hk)
   rw [HW7.out]
   have h0 : ((w.drewN (nd + nd2)).alloc (.cells #[] 40)).ownsRow w.heap.size 40 1 (.slice (some ⟨w.heap.size, 0, none⟩) 0 0) 0 [] := ⟨rfl, .inr ⟨_, 0, #[], rfl, Nat.le_refl _, by unfold World.alloc; simp, Nat.le_refl _, by simp [maxLen], rfl, rfl⟩⟩
   exact Kd.R_alloc (Kd.R_alloc (Kd.R_alloc (Kd.R_of_own (enc := Value.int .u64) (xs := []) h0 (fun k hk => by simpa [Value.ownBlock] using hk.symm)) _) _) _
  have hlen : r1.length = m := by
   have := (chWords_at _ HS.out).1
   rw [this]; unfold chChunks; simp
  have hat : ∀ j (h : j < m), (Kd.C Kd.bool w (some (ad.add (j * wd))) ((l1.drop (j * wd)).take wd).length ((l1.drop (j * wd)).take wd)) ∧ ((l1.drop (j * wd)).take wd).length = wd ∧ impl_wordOf.f 10 ((l1.drop (j * wd)).take wd) = some (r1[j]'(by rw [hlen]; exact h)) := by
   intro j hj
   have h2 : (chChunks wd l1 m).length = m := by unfold chChunks; simp
   have h1 := (chWords_at _ HS.out).2 j (by rw [h2]; exact hj) (by rw [hlen]; exact hj)
   have h3 : (chChunks wd l1 m)[j]'(by rw [h2]; exact hj) = (l1.drop (j * wd)).take wd := by unfold chChunks; simp
   rw [h3] at h1
   have h4 : j * wd + wd ≤ l1.length := by
    rw [HLM.out, ← Nat.succ_mul]
    exact Nat.mul_le_mul_right _ hj
   have hC : Kd.C Kd.bool w (some (ad.add (j * wd))) ((l1.drop (j * wd)).take wd).length ((l1.drop (j * wd)).take wd) := by
    have h5 := Kd.C_drop HR1.out (m := j * wd) (by omega) HC1.out
    rw [if_neg (by have := HC1.out; omega)] at h5
    have h6 := Kd.C_take h5 (m := wd) (by rw [List.length_drop]; omega)
    rw [show (Kd.bool).sz = 1 from rfl, Nat.mul_one] at h6
    exact h6
   exact ⟨hC, by rw [List.length_take, List.length_drop]; omega, h1⟩
  obtain ⟨xs, hxl, hxa, hxv⟩ : ∃ xs : List (ChX w wd), xs.length = m ∧ (∀ j (h : j < xs.length), (xs[j]).1.1 = ad.add (j * wd)) ∧ xs.map (fun x => x.1.2.2) = r1 := by
   refine ⟨List.ofFn (n := m) fun j => ⟨(ad.add (j.1 * wd), (l1.drop (j.1 * wd)).take wd, r1[j.1]'(by rw [hlen]; exact j.2)), hat j.1 j.2⟩, by simp, fun j h => by simp, ?_⟩
   apply List.ext_getElem
   ·simp [hlen]
   ·intro i h1 h2; simp
  clear hat
  have HHS := Aside0.mk hsz
  refine (wpIn_wide (n := 8)).1 ?_
  refine wpIn_rangeFunc_ownH (n := 8) rfl (by decide) (gf := 90) (lb := #[.pointer (some ⟨w.heap.size + 2, 0, none⟩), .pointer (some ⟨w.heap.size + 3, 0, none⟩)]) rfl trivial (enters_of Try.func90 (by kernel_rfl) rfl)
   (encs := fun x : ChX w wd => chEnc x)
   (Kp := chKp w7.heap.size (fun i => i = w.heap.size ∨ i = w.heap.size + 1)) (S := fun ys => ys = xs) (Sp := fun _ => True) (N := xs.length) (w0 := w7)
   (fun l J Jx W hW hJ _ hY h0 => ch_iter 7 (by decide) l (w.heap.size + 2) (w.heap.size + 3) w7.heap.size _ w HB7.size (fun i hi => by rcases hi with rfl | rfl <;> omega) ad c1 l1.length wd m HLM.out HC1.out hw1 (by omega) (by omega) xs hxl hxa J Jx hY (fun pre W q h => hJ pre W _ none h ⟨rfl, rfl, rfl, Nat.le_refl _, fun _ _ _ => rfl⟩ (fun r e => by cases e)) W ((blk_cell (blk_below BKS hW) 0).trans rfl) ((blk_cell (blk_below BKN hW) 0).trans rfl) (by omega) (by omega) (by omega) (by omega) h0)
   (fun h k => chKp.trans h k) (fun W l o o' hl h _ _ => chKp.put W l o o' hl h) (Below.refl _ _) (fun _ => rfl)
   (fun pre W => (∃ v, W.heap[w.heap.size + 1]? = some (.cells #[v] 39 (0, 0)) ∧ Kd.R (Kd.int .u64) 40 W w.heap.size (fun k => k = w.heap.size ∨ w7.heap.size ≤ k) v (pre.map (fun x => x.1.2.2))) ∧ w7.heap.size ≤ W.heap.size ∧ Below w.heap.size w W)
   (fun _ _ _ => False)
   (OwnFrom.and (Own.from (ch_own_R _) _) (OwnFrom.and (Own.from (ch_own_size _) _) (ownFrom_below (Nat.le_refl _) HB7.size)))
   (fun _ _ _ _ _ hs _ _ => hs)
   ⟨⟨_, BK6, HO7⟩, Nat.le_refl _, HB7⟩
   (fun x a' _ => a' = { tmps := #[.int .i64 (wd : Int), .slice (some ad) l1.length c1, undef, undef, .slice none 0 0, .bool false, .pointer (some ⟨w.heap.size + 1, 0, none⟩), .slice (some x.1.1) x.1.2.1.length x.1.2.1.length, .int .i64 (wd : Int), .bool true, .bool false, .bool false, .slice (some ad) l1.length c1, .int .i64 (l1.length : Int), .int .i64 (wd : Int), .int .i64 ((l1.length : Int) % (wd : Int)), .bool false, .bool false, .bool false, .slice (some ad) l1.length c1, .int .i64 (l1.length : Int), .int .i64 (wd : Int), .int .i64 (wrap64 ((l1.length : Int) / (wd : Int))), .bool true, .bool false, .bool false, .slice (some ⟨w.heap.size, 0, none⟩) 0 0, .slice (some ad) l1.length c1, .int .i64 (wd : Int), .func (.func 90) #[] #[.pointer (some ⟨w.heap.size + 1 + 1, 0, none⟩), .pointer (some ⟨w.heap.size + 1 + 1 + 1, 0, none⟩)], .slice (some x.1.1) x.1.2.1.length x.1.2.1.length, undef, undef, undef, undef, undef, undef], defers := [] })
   (fun x a' _ X Y row hs hg hr => hs)
   ?assign ?body ?done ?stop
  case assign =>
   rintro l pre x W K hI hK
   unfold chEnc
   gi_wp2
   exact hK _ _ (KeepsFrom.refl _ _) (chKp.refl _ _ _) hI rfl
  case body =>
   rintro l pre x a' W hl ⟨rr, hrr⟩ ⟨⟨v, hbx, hO⟩, hN, hb⟩ rfl hlt
   obtain ⟨A, c, rfl⟩ := Kd.R_slice hO
   have hcz : W.cell? ⟨w.heap.size + 1, 0, none⟩ = _ := (blk_cell hbx 0).trans rfl
   have hmx : Try.prog.follows .mixedOrders = true := by kernel_rfl
   obtain ⟨ys, hys⟩ : ∃ ys, pre.map (fun x => x.1.2.2) = ys := ⟨_, rfl⟩
   rw [hys] at hO hcz hbx
   have HYS := Aside0.mk hys
   have HO := Aside0.mk (Kd.R_drew hO)
   have HBX := Aside0.mk (blk_drew hbx)
   have HBW := Aside0.mk (below_drew1 hb)
   have HKF := Aside0.mk (ch_kf_below (B := w7.heap.size) (below_drew1 (Below.refl W.heap.size W)))
   have HKP := Aside0.mk (chKp.of_below (N := w7.heap.size) (P := fun i => i = w.heap.size ∨ i = w.heap.size + 1) (below_drew1 (Below.refl W.heap.size W)) hN)
   have HNN := Aside0.mk (show w7.heap.size ≤ W.drew.heap.size from hN)
   have HLT := Aside0.mk hlt
   clear hO hbx hb hys hN hcz hlt
   gi_wp2
   refine rg_start (n := 6) (S := fun w' => w'.cell? ⟨w.heap.size + 1, 0, none⟩ = some (.slice A ys.length c)) (ds := [4, 5]) #[false, false, false, false, false, false] hmx rfl rfl (by kernel_rfl) (by rintro ⟨_, _, h⟩; exact h) ((blk_cell HBX.out 0).trans rfl) (fun hHeld => ?_)
   generalize W.drew = wd0 at HO HBX HBW HKF HKP HNN hHeld ⊢
   refine take_ (i := 0) (N := some 31) (v := ?_) (a' := ?_) #[true, false, false, false, false, false] rfl rfl (by kernel_rfl) (fun _ _ _ h => h) (Or.inl ⟨by rfl, ?_⟩) hHeld ?_ ?_
   rotate_left
   ·rintro w' s0
    go_simp
    with_reducible rfl
   rotate_left
   ·simp only [Act.put, List.setIfInBounds_toArray, List.set_cons_zero, List.set_cons_succ, i64_w, i32_w]
    rfl
   refine pure_ (i := 1) (N := some 32) (v := ?_) (a' := ?_) #[true, true, false, false, false, false] rfl rfl (by kernel_rfl) (fun _ _ _ h => h) (Or.inl ⟨by rfl, ?_⟩) ?_ ?_
   rotate_left
   ·intro w'
    go_simp
    with_reducible rfl
   rotate_left
   ·simp only [Act.put, List.setIfInBounds_toArray, List.set_cons_zero, List.set_cons_succ, i64_w, i32_w]
    rfl
   refine one_ (i := 2) (N := some 33) #[true, true, true, false, false, false] rfl rfl (by kernel_rfl) (by decide) (fun K hK => ?_)
   refine goes_ Try.func55 (by kernel_rfl) rfl #[.slice (some x.1.1) x.1.2.1.length x.1.2.1.length] (by rfl) rfl rfl qG ?_
   with_reducible refine (impl_wordOf.calls 10 _ _ x.1.2.1 x.1.2.2 _ (Kd.C_below x.2.1 HBW.out) (Nat.le_refl _) x.2.2.2).mono ?_
   rintro e w' ⟨rfl, ⟨nd3, rfl⟩⟩
   refine ⟨_, rfl, ?_⟩
   refine hK.out _ _ hHeld (fun hHeld => ?_)
   clear hK K
   refine norm_ (a' := ?_) ?_ ?_
   rotate_left
   ·show Act.put _ (some 33) _ = _
    simp only [Act.put, List.setIfInBounds_toArray, List.set_cons_zero, List.set_cons_succ, i64_w, i32_w]
    rfl
   refine one_ (i := 3) (N := some 34) #[true, true, true, true, false, false] rfl rfl (by kernel_rfl) (by decide) (fun K hK => ?_)
   refine value_ (w1 := ?_) (v := ?_) (by rfl) rfl ?_ ?_
   rotate_left 2
   ·go_simp
    constructor
    ·rfl
    ·rfl
   refine hK.out _ _ ((blk_cell (blk_alloc (blk_drewN HBX.out nd3) _) 0).trans rfl) (fun hHeld => ?_)
   clear hK K
   refine norm_ (a' := ?_) ?_ ?_
   rotate_left
   ·show Act.put _ (some 34) _ = _
    simp only [Act.put, List.setIfInBounds_toArray, List.set_cons_zero, List.set_cons_succ, i64_w, i32_w]
    rfl
   refine last_ (i := 4) (N := some 35) #[true, true, true, true, true, false] rfl rfl (by kernel_rfl) (by decide) (fun K hK => ?_)
   have hpl : ys.length ≤ 16 := by
    have h1 := HLT.out
    rw [← HYS.out, List.length_map]
    omega
   refine Kd.R_append_step (Kd.int .u64) (w0 := w) w.heap.size (by rfl) (.tmp 31) (.tmp 34) 39 40 (.int .u64 0) 8 rfl Try.underlying39 info40 rfl (by decide) (by omega) (.slice A ys.length c) ys x.1.2.2 [.int .u64 x.1.2.2] (fun k => k = w.heap.size ∨ w7.heap.size ≤ k) (fun _ => False) rfl rfl ?aP (fun _ hk => hk.elim) ?aF ?aO ?aB ?aS ?aL ?_
   (case aP => exact rfl)
   (case aF => exact fun k hk => .inr (Nat.le_trans HNN.out hk))
   (case aO => exact Kd.R_drewN HO.out _)
   (case aB => exact pw_below_drewN HBW.out _)
   (case aS => exact below_size (pw_below_drewN HBW.out _))
   (case aL => omega)
   intro v1 w4 ho hb4 hg4 hat4
   obtain ⟨A4, c4, e4⟩ := Kd.R_slice ho
   rw [show (ys ++ [x.1.2.2]).length = ys.length + 1 by simp] at e4
   subst e4
   have HKF3 : KeepsFrom w7.heap.size W (wd0.drewN nd3) := ⟨HKF.out.1, HKF.out.2⟩
   have HKP3 : chKp w7.heap.size (fun i => i = w.heap.size ∨ i = w.heap.size + 1) W (wd0.drewN nd3) := ⟨HKP.out.1, HKP.out.2⟩
   have hbx4 := blk_grown (blk_drewN HBX.out nd3) hg4 (Kd.R_ne (Kd.R_drewN HO.out nd3) (blk_drewN HBX.out nd3) (by decide))
   have hcz4 : w4.cell? ⟨w.heap.size + 1, 0, none⟩ = some (.slice A ys.length c) := (blk_cell hbx4 0).trans rfl
   have hfz4 := blk_frozen hbx4 0
   refine hK.out _ _ ?_
   clear hK K
   refine norm_ (a' := ?_) ?_ ?_
   rotate_left
   ·show Act.put _ (some 35) _ = _
    simp only [Act.put, List.setIfInBounds_toArray, List.set_cons_zero, List.set_cons_succ, i64_w, i32_w]
    rfl
   refine last_ (i := 5) (N := none) #[true, true, true, true, true, true] rfl rfl (by kernel_rfl) (by decide) (fun K hK => ?_)
   refine skip_ (w1 := ?_) (by rfl) rfl ?_ ?_
   rotate_left
   ·go_simp
    rfl
   refine hK.out _ _ ?_
   clear hK K
   refine done_ (by kernel_rfl) ?_
   have hkf4 : KeepsFrom w7.heap.size W w4 := HKF3.trans (ch_kf_grown hg4 (fun k hk => by obtain ⟨cells, hc⟩ := Kd.R_typed (Kd.R_drewN HO.out nd3) k hk; exact ⟨cells, _, hc⟩))
   have hkp4 : chKp w7.heap.size (fun i => i = w.heap.size ∨ i = w.heap.size + 1) W w4 := HKP3.trans (chKp.of_grown hg4 (show w7.heap.size ≤ (wd0.drewN nd3).heap.size from HNN.out) (fun k hk => (HO.out.1 k hk).elim (fun h => .inl (.inl h)) .inr))
   refine ⟨hkf4.trans ((KeepsOthers.setCell _ _ _).from _), hkp4.trans ⟨by simp [World.setCell], fun i _ hp => Below.heap_setCell _ _ _ i (fun e => hp (.inr e))⟩, ⟨_, blk_put hbx4 0 _ rfl, ?_⟩, ?_, below_set hb4 (by omega)⟩
   ·rw [List.map_append, HYS.out]
    exact Kd.R_set ho hbx4 (by decide) 0 _
   ·exact Nat.le_trans (Nat.le_trans HNN.out hg4.size) (by simp [World.setCell])
  case done =>
   rintro D zs W hD rfl ⟨⟨v, hbx, hO⟩, hN, hb⟩ hKd
   obtain ⟨A, c, rfl⟩ := Kd.R_slice hO
   have hcz : W.cell? ⟨w.heap.size + 1, 0, none⟩ = _ := (blk_cell hbx 0).trans rfl
   go_wp2
   refine ⟨by simp, .inl ⟨_, _, rfl, run_takeDeferred hKd, ?_⟩⟩
   refine ⟨_, results_tmp2 rfl _ _ _, _, rfl, ?_, hb.trans (belowK_b (w := w) (Nat.le_refl _) W D _ _ (by have := HB7.size; omega) hKd rfl rfl)⟩
   rw [hxv, hlen] at hO
   exact Kd.R_mono (Kd.R_move (Kd.R_bound hO) (fun k hk => by
    obtain ⟨_, _, hlt, q, _, cells, hc⟩ := hk
    refine (grownBy_putObj' W D _).block k hlt (fun e => ?_)
    cases e
    rw [hc] at hKd
    cases hKd)) (fun _ _ => trivial)
  case stop =>
   rintro D c pre W _ _ h _
   exact h.elim
 ·rw [if_neg hg] at h
  cases h
  by_cases hl : 1 ≤ a0 ∧ a0 ≤ 4
  ·obtain ⟨wd, rfl⟩ : ∃ wd : Nat, a0 = (wd : Int) := ⟨a0.toNat, by omega⟩
   have hw1 : 1 ≤ wd := by omega
   have hwz : decide ((wd : Int) = 0) = false := decide_eq_false (by omega)
   have hwn : ¬ wd = 0 := by omega
   have AL : Aside0 (impl_isLaid.f (wd : Int) = some true) := ⟨by unfold impl_isLaid.f; rw [if_pos (by omega), decide_eq_true (by omega)]⟩
   by_cases hm : (l1.length : Int) % (wd : Int) = 0
   ·have hmb : (((l1.length : Int) % (wd : Int)) != 0) = false := by rw [hm]; rfl
    have hwr : wrap64 ((l1.length : Int) / (wd : Int)) = (l1.length : Int) / (wd : Int) := ch_div l1.length wd hm1
    have A2 : Aside0 (impl_isVars.f (wrap64 ((l1.length : Int) / (wd : Int))) = some false) := ⟨by
     rw [hwr]
     unfold impl_isVars.f
     split
     ·rename_i h1
      congr 1
      refine decide_eq_false (fun h2 => hg ?_)
      unfold chGood
      simp only [Bool.and_eq_true, decide_eq_true_eq]
      exact ⟨by omega, by omega, hm, by omega, h2⟩
     ·rfl⟩
    clear hg hm hl hwr
    go_enter Try.func31, Try.ntmps31
    go_wp2_with (first | (go_at_call 38; (with_reducible refine (impl_isLaid.calls _ _ _ AL.out).mono ?_); rintro e w1 ⟨rfl, ⟨nd, rfl⟩⟩) | (go_at_call 58; (with_reducible refine (impl_isVars.calls _ _ _ A2.out).mono ?_); rintro e w1 ⟨rfl, ⟨nd, rfl⟩⟩))
    go_ret2
    exact ⟨_, rfl, Kd.R_nil _ _ _ _ _, by repeat (first | exact Below.refl _ _ | apply pw_below_drewN)⟩
   ·have hmb : (((l1.length : Int) % (wd : Int)) != 0) = true := bne_iff_ne.mpr hm
    clear hg hm hl
    go_enter Try.func31, Try.ntmps31
    go_wp2_with (first | (go_at_call 38; (with_reducible refine (impl_isLaid.calls _ _ _ AL.out).mono ?_); rintro e w1 ⟨rfl, ⟨nd, rfl⟩⟩))
    go_ret2
    exact ⟨_, rfl, Kd.R_nil _ _ _ _ _, by repeat (first | exact Below.refl _ _ | apply pw_below_drewN)⟩
  ·have AL : Aside0 (impl_isLaid.f a0 = some false) := ⟨by
    unfold impl_isLaid.f
    split
    ·congr 1; exact decide_eq_false (by omega)
    ·rfl⟩
   clear hg hl
   go_enter Try.func31, Try.ntmps31
   go_wp2_with (first | (go_at_call 38; (with_reducible refine (impl_isLaid.calls _ _ _ AL.out).mono ?_); rintro e w1 ⟨rfl, ⟨nd, rfl⟩⟩))
   go_ret2
   exact ⟨_, rfl, Kd.R_nil _ _ _ _ _, by repeat (first | exact Below.refl _ _ | apply pw_below_drewN)⟩


/-! ### laws_heldUint64S: function 32 -/
def laws_heldUint64S.l0 : Nat → List Int → Int → Int → Option (Int)
 | 0, _, _, _ => none
 | k + 1, x0, x1, x5 => if x5 < (x0.length : Int) then (if 0 ≤ x5 then (if (rd x0 x5) = (IntKind.u64.wrap (x1)) then (laws_heldUint64S.l0 k x0 (wrap64 (x1 + 1)) (wrap64 (x5 + 1))) else (some (-1))) else (none)) else (some x1)
def laws_heldUint64S.f (k : Nat) (l0 : List Int) (a1 : Int) : Option (Int) := laws_heldUint64S.l0 k l0 a1 0
theorem laws_heldUint64S.mono_l : ∀ k, (∀ y0 y1 y2, LeO (laws_heldUint64S.l0 k y0 y1 y2) (laws_heldUint64S.l0 (k + 1) y0 y1 y2))
 | 0 => fun _ _ _ r h => by simp [laws_heldUint64S.l0] at h
 | k + 1 => by
  have ih0 := laws_heldUint64S.mono_l k
  ·intro y0 y1 y2
   unfold laws_heldUint64S.l0
   repeat' first
   | (with_reducible exact ih0 _ _ _)
   | (with_reducible first | exact LeO.refl _ | exact LeO.none _ | refine LeO.ite ?_ ?_ | refine LeO.bind ?_ (fun _ => ?_))
   | exact ih0 _ _ _
   | exact LeO.none _ | refine LeO.ite ?_ ?_ | refine LeO.bind ?_ (fun _ => ?_)
theorem laws_heldUint64S.mono : ∀ a0 a1 k, LeO (laws_heldUint64S.f k a0 a1) (laws_heldUint64S.f (k + 1) a0 a1) := by
 intro a0 a1 k
 have ih0 := laws_heldUint64S.mono_l k
 unfold laws_heldUint64S.f
 repeat' first
   | (with_reducible exact ih0 _ _ _)
   | (with_reducible first | exact LeO.refl _ | exact LeO.none _ | refine LeO.ite ?_ ?_ | refine LeO.bind ?_ (fun _ => ?_))
   | exact ih0 _ _ _
   | exact LeO.none _ | refine LeO.ite ?_ ?_ | refine LeO.bind ?_ (fun _ => ?_)
set_option maxHeartbeats 8000000 in
set_option maxRecDepth 100000 in
theorem laws_heldUint64S.calls (k : Nat) (A0 : Option Addr) (c0 : Nat) (l0 : List Int) (a1 : Int) (r : Int) (w : World) (hr0 : Kd.C (Kd.int .u64) w A0 l0.length l0) (hc0 : l0.length ≤ c0) (h : laws_heldUint64S.f k l0 a1 = some r) :
  Calls Try.prog 32 #[.slice A0 l0.length c0, .int .i64 a1] w fun e w' => e = .returned (.int .i64 r) ∧ Drawn0 w w' := by
 have HR0 := Aside0.mk hr0
 have HC0 := Aside0.mk hc0
 clear hr0 hc0
 have H : (laws_heldUint64S.l0 k l0 a1 0) = some r := h
 clear h
 have H' := Aside0.mk H
 clear H
 go_enter Try.func32, Try.ntmps32
 go_wp2
 go_loopg [1, 5] k (fun kq v1 v5 w' => ∃ (x1_1 : Int) (x5_1 : Int), v1 = .int .i64 x1_1 ∧ v5 = .int .i64 x5_1 ∧ Aside0 (laws_heldUint64S.l0 kq l0 x1_1 x5_1 = some r) ∧ Aside0 (kq ≤ k) ∧ Drawn0 w w')
 case atStart => exact ⟨(a1), (0), qS, qS, H', ⟨Nat.le_refl _⟩, by repeat (first | exact Drawn0.refl _ | apply Drawn0.step)⟩
 case round =>
  clear H'
  try clear p2
  obtain ⟨x1_1, x5_1, rfl, rfl, HA, HK1, ⟨m1, rfl⟩⟩ := hrel
  cases gk with
  | zero => exact absurd HA.out (by simp [laws_heldUint64S.l0])
  | succ k1 =>
   have H := HA.out
   clear HA
   simp only [laws_heldUint64S.l0] at H
   by_cases c3 : x5_1 < (l0.length : Int)
   ·rw [if_pos c3] at H
    have c3b0 : decide (x5_1 < (l0.length : Int)) = true := decide_eq_true c3
    clear c3
    by_cases c4 : 0 ≤ x5_1
    ·rw [if_pos c4] at H
     have c4b0 : decide (0 ≤ x5_1) = true := decide_eq_true c4
     clear c4
     by_cases c5 : (rd l0 x5_1) = (IntKind.u64.wrap (x1_1))
     ·rw [if_pos c5] at H
      have c5b0 : ((rd l0 x5_1) == (IntKind.u64.wrap (x1_1))) = true := beq_iff_eq.mpr c5
      have c5b1 : ((rd l0 x5_1) != (IntKind.u64.wrap (x1_1))) = false := bne_eq_false_iff_eq.mpr c5
      clear c5
      have H' := Aside0.mk H
      clear H
      have p623 : 0 ≤ (x5_1 : Int) := qD
      have q623 : x5_1 < (l0.length : Int) := qD
      obtain ⟨ad623, e623, hx623_0⟩ := Kd.at_int HR0.out x5_1 p623 q623
      cases e623
      replace p623 := eq_true p623
      replace q623 := eq_true q623
      go_wp2
      go_roundg k1
      case measure => have := HK1.out; omega
      case rel => exact ⟨(wrap64 (x1_1 + 1)), (wrap64 (x5_1 + 1)), qS, qS, H', ⟨by have := HK1.out; omega⟩, by repeat (first | exact Drawn0.refl _ | apply Drawn0.step)⟩
     ·rw [if_neg c5] at H
      have c5b0 : ((rd l0 x5_1) == (IntKind.u64.wrap (x1_1))) = false := beq_eq_false_iff_ne.mpr c5
      have c5b1 : ((rd l0 x5_1) != (IntKind.u64.wrap (x1_1))) = true := bne_iff_ne.mpr c5
      obtain rfl := Option.some.inj H
      have p623 : 0 ≤ (x5_1 : Int) := qD
      have q623 : x5_1 < (l0.length : Int) := qD
      obtain ⟨ad623, e623, hx623_0⟩ := Kd.at_int HR0.out x5_1 p623 q623
      cases e623
      replace p623 := eq_true p623
      replace q623 := eq_true q623
      go_wp2
      go_ret
      exact ⟨by first | rfl | (simp; done) | (simp [*]; done), by repeat (first | exact Drawn0.refl _ | apply Drawn0.step)⟩
    ·rw [if_neg c4] at H
     exact absurd H (by simp)
   ·rw [if_neg c3] at H
    have c3b0 : decide (x5_1 < (l0.length : Int)) = false := decide_eq_false c3
    clear c3
    obtain rfl := Option.some.inj H
    go_wp2
    go_ret
    exact ⟨by first | rfl | (simp; done) | (simp [*]; done), by repeat (first | exact Drawn0.refl _ | apply Drawn0.step)⟩

end Go.Proofs.Ytckgeanmljmhfaa.X
