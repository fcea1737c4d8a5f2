/- Go functions as Lean functions, each with the proof that its call comes to just its answer. Conditions: the arguments are of their kinds. -/
import Derived.Test.YtgdmdaalmoioeaaGreatX0
import Derived.Test.YtgdmdaalmoioeaaGreatX28
import Derived.Test.YtgdmdaalmoioeaaGreatX66
import Derived.Test.YtgdmdaalmoioeaaGreatX51
import Derived.Test.YtgdmdaalmoioeaaGreatX57
namespace Go.Proofs.YtgdmdaalmoioeaaGreat.X
open Go.RowKit Go.Proofs.YtgdmdaalmoioeaaGreatW.PrintWords Go.Proofs.YtgdmdaalmoioeaaGreatW.PrintLast Go.Proofs.YtgdmdaalmoioeaaGreatW.PrintMore
attribute [local go_sem] max2_int min2_int max_two min_two max_three min_three max_four min_four
set_option linter.unusedVariables false
set_option linter.unusedSimpArgs false
set_option maxHeartbeats 16000000
set_option maxRecDepth 100000
attribute [local go_sem] Oper.semAt_some
theorem ch_chunk (A : Option Addr) (len cap wd : Nat) (hw : 1 ≤ wd) (w : World) :
  Calls Tryz.prog 49 #[.slice A len cap, .int .i64 (wd : Int)] w fun e w' => e = .returned (.func (.func 78) #[] #[.pointer (some ⟨w.heap.size, 0, none⟩), .pointer (some ⟨w.heap.size + 1, 0, none⟩)]) ∧ w' = (w.alloc (.cells #[.slice A len cap] 42)).alloc (.cells #[.int .i64 (wd : Int)] 3) := by
 have hd : decide ((wd : Int) < 1) = false := decide_eq_false (by omega);go_enter Tryz.func49, Tryz.ntmps49
 go_wp2
 go_ret
 exact ⟨rfl, rfl⟩
def chChunks (wd : Nat) (l : List Bool) (m : Nat) : List (List Bool) := (List.range m).map fun j => (l.drop (j * wd)).take wd
def chWords : List (List Bool) → Option (List Int)
 | [] => some []
 | c :: r => (impl_wordOf.f 10 c).bind fun x => (chWords r).bind fun s => some (x :: s)
def chGood (a0 : Int) (n : Nat) : Bool := decide (1 ≤ a0) && (decide (a0 ≤ 4) && (decide ((n : Int) % a0 = 0) && (decide (1 ≤ (n : Int) / a0) && decide ((n : Int) / a0 ≤ 4))))
def impl_StateFrom.f (a0 : Int) (l1 : List Bool) : Option (List Int × Bool) :=
 if chGood a0 l1.length = true then (chWords (chChunks a0.toNat l1 (l1.length / a0.toNat))).bind fun s => some (s, true) else some ([], false)
theorem chWords_at (cs : List (List Bool)) : ∀ {s : List Int}, chWords cs = some s → s.length = cs.length ∧ ∀ j (h : j < cs.length) (h2 : j < s.length), impl_wordOf.f 10 cs[j] = some s[j] := by
 induction cs with
 | nil => intro s h; cases h; exact ⟨rfl, fun j h => absurd h (by simp)⟩
 | cons c r ih =>
  intro s h;unfold chWords at h;obtain ⟨x, hx, h⟩ := Option.bind_eq_some_iff.1 h;obtain ⟨t, ht, h⟩ := Option.bind_eq_some_iff.1 h;cases h;obtain ⟨h1, h2⟩ := ih ht;refine ⟨by simp [h1], fun j hj hj2 => ?_⟩;cases j with
  | zero => exact hx
  | succ j => exact h2 j (by simpa using hj) (by simpa using hj2)
theorem ch_div (n wd : Nat) (h : n ≤ 9223372036854775807) : wrap64 ((n : Int) / (wd : Int)) = (n : Int) / (wd : Int) := by
 have h1 : (0 : Int) ≤ (n : Int) / (wd : Int) := Int.ediv_nonneg (by omega) (by omega);have h2 : (n : Int) / (wd : Int) ≤ (n : Int) := Int.ediv_le_self _ (by omega);unfold wrap64;omega
theorem ch_own_R {α β : Type} {d : Kd α} {e base : Nat} {ok : Nat → Prop} {g t : Nat} (f : β → List α) : Own (fun (s : β) W => ∃ v, W.heap[g]? = some (Obj.cells #[v] t (0, 0)) ∧ Kd.R d e W base ok v (f s)) := fun s W W' row h hg hr => by
 obtain ⟨v, hb, h⟩ := h;refine ⟨v, (hg.block g (blk_lt hb) (fun he => ?_)).trans hb, Kd.R_mono (Kd.R_move (Kd.R_bound h) (fun k hk => ?_)) (fun _ hk => hk.1)⟩
 ·obtain ⟨o, ho, hn⟩ := hr g he.symm;rw [hb] at ho;cases ho;cases hn
 ·obtain ⟨_, _, hlt, q, _, cells, hc⟩ := hk;refine hg.block k hlt (fun he => ?_);obtain ⟨o, ho, hn⟩ := hr k he.symm;rw [hc] at ho;cases ho;cases hn
theorem ch_kf_below {B : Nat} {W W' : World} (h : Below W.heap.size W W') : KeepsFrom B W W' := ⟨h.size, fun k o _ hk _ => (h.block k (Array.getElem?_eq_some_iff.1 hk).1).trans hk⟩
theorem ch_kf_grown {B : Nat} {W W' : World} {row : Option Nat} (h : W.grownBy W' row) (hrow : ∀ k, row = some k → ∃ cells t, W.heap[k]? = some (Obj.cells cells t (0, 0))) : KeepsFrom B W W' :=
 ⟨h.size, fun k o _ hk ho => (h.block k (Array.getElem?_eq_some_iff.1 hk).1 (fun e => by
  obtain ⟨cells, t, hc⟩ := hrow k e.symm;rw [hc] at hk;cases hk;cases ho)).trans hk⟩
theorem chKp.of_grown {N : Nat} {P : Nat → Prop} {W W' : World} {row : Option Nat} (h : W.grownBy W' row) (hN : N ≤ W.heap.size) (hr : ∀ k, row = some k → P k ∨ N ≤ k) : chKp N P W W' :=
 ⟨h.size, fun i hi hp => h.block i (Nat.lt_of_lt_of_le hi hN) (fun e => (hr i e.symm).elim hp (fun h2 => by omega))⟩
theorem ch_own_size {β : Type} (n : Nat) : Own (fun (_ : β) W => n ≤ W.heap.size) := fun _ _ _ _ h hg _ => Nat.le_trans h hg.size
theorem chKp.of_below {N : Nat} {P : Nat → Prop} {W W' : World} (h : Below W.heap.size W W') (hN : N ≤ W.heap.size) : chKp N P W W' := ⟨h.size, fun i hi _ => h.block i (Nat.lt_of_lt_of_le hi hN)⟩
theorem chKp.put {N : Nat} {P : Nat → Prop} (W : World) (l : Nat) (o o' : Obj) (hl : N ≤ l) (h : W.heap[l]? = some o) : chKp N P W (W.putObj l o') := by
 have hg := grownBy_putObj' W l o';have hlt := (Array.getElem?_eq_some_iff.1 h).1;exact ⟨hg.size, fun i hi _ => hg.block i (by omega) (fun e => by cases e; omega)⟩
theorem impl_StateFrom.calls (a0 : Int) (A1 : Option Addr) (c1 : Nat) (l1 : List Bool) (r1 : List Int) (r2 : Bool) (w : World) (hr1 : Kd.C Kd.bool w A1 l1.length l1) (hc1 : l1.length ≤ c1) (h : impl_StateFrom.f a0 l1 = some (r1, r2)) :
  Calls Tryz.prog 24 #[.int .i64 a0, .slice A1 l1.length c1] w fun e w' => ∃ v0_ : Value, e = .returned (.tuple #[v0_, .bool r2]) ∧ Kd.R (Kd.int .u64) 51 w' w.heap.size (fun _ => True) v0_ r1 ∧ Below w.heap.size w w' := by
 have hm1 : l1.length ≤ 9223372036854775807 := by have := hr1.2.1; unfold maxLen at this; omega
 have HR1 := qa hr1;have HC1 := qa hc1;clear hr1 hc1;unfold impl_StateFrom.f at h;by_cases hg : chGood a0 l1.length = true
 ·rw [if_pos hg] at h;obtain ⟨s, hs, h⟩ := Option.bind_eq_some_iff.1 h;cases h;unfold chGood at hg;simp only [Bool.and_eq_true, decide_eq_true_eq] at hg;obtain ⟨g1, g4, gm, gv1, gv4⟩ := hg;obtain ⟨wd, rfl⟩ : ∃ wd : Nat, a0 = (wd : Int) := ⟨a0.toNat, by omega⟩;have hmb : (((l1.length : Int) % (wd : Int)) != 0) = false := by rw [gm]; rfl
  have AL : Aside0 (impl_isLaid.f (wd : Int) = some true) := ⟨by unfold impl_isLaid.f; rw [if_pos (by omega), decide_eq_true (by omega)]⟩;have A2 : Aside0 (impl_isVars.f (wrap64 ((l1.length : Int) / (wd : Int))) = some true) := ⟨by
   rw [ch_div l1.length wd hm1];unfold impl_isVars.f;rw [if_pos (by omega), decide_eq_true (by omega)]⟩
  obtain ⟨m, hm⟩ : ∃ m : Nat, (m : Int) = (l1.length : Int) / (wd : Int) := ⟨((l1.length : Int) / (wd : Int)).toNat, by omega⟩;have hlm : l1.length = m * wd := by
   have h1 := Int.mul_ediv_add_emod (l1.length : Int) (wd : Int);rw [gm, ← hm, Int.add_zero, Int.mul_comm] at h1;have h2 : ((m * wd : Nat) : Int) = (l1.length : Int) := (by rw [Int.natCast_mul]; exact h1);omega
  have hmn : l1.length / (wd : Int).toNat = m := by
   rw [Int.toNat_natCast, hlm];exact Nat.mul_div_cancel _ (by omega)
  rw [hmn, Int.toNat_natCast] at hs;have hm4 : m ≤ 4 := by omega
  have hm0 : 1 ≤ m := by omega
  have hb16 : l1.length ≤ 16 := by rw [hlm]; exact Nat.le_trans (Nat.mul_le_mul hm4 (show wd ≤ 4 by omega)) (by decide)
  have HS := qa hs;have HLM := qa hlm;have hw1 : 1 ≤ wd := by omega
  have hwz : decide ((wd : Int) = 0) = false := decide_eq_false (by omega);have hwn : ¬ wd = 0 := by omega
  have hw4 : wd ≤ 4 := by omega
  have hlpos : 0 < l1.length := by rw [hlm]; exact Nat.mul_pos (by omega) (by omega)
  obtain ⟨ad, hA⟩ : ∃ ad, A1 = some ad := by
   obtain ⟨ad, e, _⟩ := Kd.at_bool HR1.out 0 (by omega) (by omega);exact ⟨ad, e⟩
  clear gm gv1 gv4 hm hmn hs hlm h;subst hA;have HB := qa (Below.refl w.heap.size w);have HML := qa hm1;clear hm1;refine (callsIn_wide (n := 8)).1 ?_;refine callsIn_of_wp_marks Tryz.func24 rfl trivial ?_ rfl;simp only [Tryz.ntmps24, List.size_toArray, List.length_cons, List.length_nil, Nat.reduceAdd, Nat.reduceSub, Array.replicate_succ, Array.replicate_zero, List.push_toArray, List.append_toArray, List.nil_append, List.cons_append];refine wpIn_wide.2 ?_;go_wp2_with (first | (go_at_call 37; (with_reducible refine (impl_isLaid.calls _ _ _ AL.out).mono ?_); rintro e w1 ⟨rfl, ⟨nd, rfl⟩⟩) | (go_at_call 48; (with_reducible refine (impl_isVars.calls _ _ _ A2.out).mono ?_); rintro e w1 ⟨rfl, ⟨nd2, rfl⟩⟩) | (go_at_call 49; (with_reducible refine (ch_chunk _ _ _ wd hw1 _).mono ?_); rintro e w7 ⟨rfl, hw7⟩; have HW7 := qa hw7; clear hw7))
  have hsz : w7.heap.size = w.heap.size + 4 := by rw [HW7.out]; simp
  have BK6 : w7.heap[w.heap.size + 1]? = some (.cells #[.slice (some ⟨w.heap.size, 0, none⟩) 0 0] 24 (0, 0)) := by
   rw [HW7.out];refine blk_alloc (blk_alloc ?_ _) _;have := blk_new ((w.drewN (nd + nd2)).alloc (.cells #[] 51)) (.cells #[.slice (some ⟨w.heap.size, 0, none⟩) 0 0] 24);simpa using this
  have BKS : w7.heap[w.heap.size + 2]? = some (.cells #[.slice (some ad) l1.length c1] 42 (0, 0)) := by
   rw [HW7.out];refine blk_alloc ?_ _;have := blk_new (((w.drewN (nd + nd2)).alloc (.cells #[] 51)).alloc (.cells #[.slice (some ⟨w.heap.size, 0, none⟩) 0 0] 24)) (.cells #[.slice (some ad) l1.length c1] 42);simpa using this
  have BKN : w7.heap[w.heap.size + 3]? = some (.cells #[.int .i64 (wd : Int)] 3 (0, 0)) := by
   rw [HW7.out];have := blk_new ((((w.drewN (nd + nd2)).alloc (.cells #[] 51)).alloc (.cells #[.slice (some ⟨w.heap.size, 0, none⟩) 0 0] 24)).alloc (.cells #[.slice (some ad) l1.length c1] 42)) (.cells #[.int .i64 (wd : Int)] 3);simpa using this
  have HB7 : Below w.heap.size w w7 := by
   rw [HW7.out];repeat (first | exact Below.refl _ _ | apply below_alloc | apply pw_below_drewN)
  have HO7 : Kd.R (Kd.int .u64) 51 w7 w.heap.size (fun k => k = w.heap.size ∨ w7.heap.size ≤ k) (.slice (some ⟨w.heap.size, 0, none⟩) 0 0) ([] : List Int) := by
   refine Kd.R_mono (ok := fun k => k = w.heap.size) ?_ (fun _ hk => .inl hk);rw [HW7.out];have h0 : ((w.drewN (nd + nd2)).alloc (.cells #[] 51)).ownsRow w.heap.size 51 1 (.slice (some ⟨w.heap.size, 0, none⟩) 0 0) 0 [] := ⟨rfl, .inr ⟨_, 0, #[], rfl, Nat.le_refl _, by unfold World.alloc; simp, Nat.le_refl _, by simp [maxLen], rfl, rfl⟩⟩;exact Kd.R_alloc (Kd.R_alloc (Kd.R_alloc (Kd.R_of_own (enc := Value.int .u64) (xs := []) h0 (fun k hk => by simpa [Value.ownBlock] using hk.symm)) _) _) _
  have hlen : r1.length = m := by
   have := (chWords_at _ HS.out).1;rw [this]; unfold chChunks; simp
  have hat : ∀ j (h : j < m), (Kd.C Kd.bool w (some (ad.add (j * wd))) ((l1.drop (j * wd)).take wd).length ((l1.drop (j * wd)).take wd)) ∧ ((l1.drop (j * wd)).take wd).length = wd ∧ impl_wordOf.f 10 ((l1.drop (j * wd)).take wd) = some (r1[j]'(by rw [hlen]; exact h)) := by
   intro j hj;have h2 : (chChunks wd l1 m).length = m := (by unfold chChunks; simp);have h1 := (chWords_at _ HS.out).2 j (by rw [h2]; exact hj) (by rw [hlen]; exact hj);have h3 : (chChunks wd l1 m)[j]'(by rw [h2]; exact hj) = (l1.drop (j * wd)).take wd := (by unfold chChunks; simp);rw [h3] at h1;have h4 : j * wd + wd ≤ l1.length := by
    rw [HLM.out, ← Nat.succ_mul];exact Nat.mul_le_mul_right _ hj
   have hC : Kd.C Kd.bool w (some (ad.add (j * wd))) ((l1.drop (j * wd)).take wd).length ((l1.drop (j * wd)).take wd) := by
    have h5 := Kd.C_drop HR1.out (m := j * wd) (by omega) HC1.out;rw [if_neg (by have := HC1.out; omega)] at h5;have h6 := Kd.C_take h5 (m := wd) (by rw [List.length_drop]; omega);rw [show (Kd.bool).sz = 1 from rfl, Nat.mul_one] at h6;exact h6
   exact ⟨hC, by rw [List.length_take, List.length_drop]; omega, h1⟩
  obtain ⟨xs, hxl, hxa, hxv⟩ : ∃ xs : List (ChX w wd), xs.length = m ∧ (∀ j (h : j < xs.length), (xs[j]).1.1 = ad.add (j * wd)) ∧ xs.map (fun x => x.1.2.2) = r1 := by
   refine ⟨List.ofFn (n := m) fun j => ⟨(ad.add (j.1 * wd), (l1.drop (j.1 * wd)).take wd, r1[j.1]'(by rw [hlen]; exact j.2)), hat j.1 j.2⟩, by simp, fun j h => by simp, ?_⟩;apply List.ext_getElem
   ·simp [hlen]
   ·intro i h1 h2; simp
  clear hat;have HHS := qa hsz;refine (wpIn_wide (n := 8)).1 ?_;refine wpIn_rangeFunc_ownH (n := 8) rfl (by decide) (gf := 78) (lb := #[.pointer (some ⟨w.heap.size + 2, 0, none⟩), .pointer (some ⟨w.heap.size + 3, 0, none⟩)]) rfl trivial (enters_of Tryz.func78 (by kernel_rfl) rfl)
   (encs := fun x : ChX w wd => chEnc x)
   (Kp := chKp w7.heap.size (fun i => i = w.heap.size ∨ i = w.heap.size + 1)) (S := fun ys => ys = xs) (Sp := fun _ => True) (N := xs.length) (w0 := w7)
   (fun l J Jx W hW hJ _ hY h0 => ch_iter 7 (by decide) l (w.heap.size + 2) (w.heap.size + 3) w7.heap.size _ w HB7.size (fun i hi => by rcases hi with rfl | rfl <;> omega) ad c1 l1.length wd m HLM.out HC1.out hw1 (by omega) (by omega) xs hxl hxa J Jx hY (fun pre W q h => hJ pre W _ none h ⟨rfl, rfl, rfl, Nat.le_refl _, fun _ _ _ => rfl⟩ (fun r e => by cases e)) W ((blk_cell (blk_below BKS hW) 0).trans rfl) ((blk_cell (blk_below BKN hW) 0).trans rfl) (by omega) (by omega) (by omega) (by omega) h0)
   (fun h k => chKp.trans h k) (fun W l o o' hl h _ _ => chKp.put W l o o' hl h) (Below.refl _ _) (fun _ => rfl)
   (fun pre W => (∃ v, W.heap[w.heap.size + 1]? = some (.cells #[v] 24 (0, 0)) ∧ Kd.R (Kd.int .u64) 51 W w.heap.size (fun k => k = w.heap.size ∨ w7.heap.size ≤ k) v (pre.map (fun x => x.1.2.2))) ∧ w7.heap.size ≤ W.heap.size ∧ Below w.heap.size w W)
   (fun _ _ _ => False)
   (OwnFrom.and (Own.from (ch_own_R _) _) (OwnFrom.and (Own.from (ch_own_size _) _) (ownFrom_below (Nat.le_refl _) HB7.size)))
   (fun _ _ _ _ _ hs _ _ => hs)
   ⟨⟨_, BK6, HO7⟩, Nat.le_refl _, HB7⟩
   (fun x a' _ => a' = { tmps := #[.int .i64 (wd : Int), .slice (some ad) l1.length c1, undef, undef, .slice none 0 0, .bool false, .pointer (some ⟨w.heap.size + 1, 0, none⟩), .slice (some x.1.1) x.1.2.1.length x.1.2.1.length, .int .i64 (wd : Int), .bool true, .bool false, .bool false, .slice (some ad) l1.length c1, .int .i64 (l1.length : Int), .int .i64 (wd : Int), .int .i64 ((l1.length : Int) % (wd : Int)), .bool false, .bool false, .bool false, .slice (some ad) l1.length c1, .int .i64 (l1.length : Int), .int .i64 (wd : Int), .int .i64 (wrap64 ((l1.length : Int) / (wd : Int))), .bool true, .bool false, .bool false, .slice (some ⟨w.heap.size, 0, none⟩) 0 0, .slice (some ad) l1.length c1, .int .i64 (wd : Int), .func (.func 78) #[] #[.pointer (some ⟨w.heap.size + 1 + 1, 0, none⟩), .pointer (some ⟨w.heap.size + 1 + 1 + 1, 0, none⟩)], .slice (some x.1.1) x.1.2.1.length x.1.2.1.length, undef, undef, undef, undef, undef, undef], defers := [] })
   (fun x a' _ X Y row hs hg hr => hs)
   ?assign ?body ?done ?stop
  case assign =>
   rintro l pre x W K hI hK;unfold chEnc;gi_wp2
   exact hK _ _ (KeepsFrom.refl _ _) (chKp.refl _ _ _) hI rfl
  case body =>
   rintro l pre x a' W hl ⟨rr, hrr⟩ ⟨⟨v, hbx, hO⟩, hN, hb⟩ rfl hlt;obtain ⟨A, c, rfl⟩ := Kd.R_slice hO;have hcz : W.cell? ⟨w.heap.size + 1, 0, none⟩ = _ := (blk_cell hbx 0).trans rfl;have hmx : Tryz.prog.follows .mixedOrders = true := (by kernel_rfl);obtain ⟨ys, hys⟩ : ∃ ys, pre.map (fun x => x.1.2.2) = ys := ⟨_, rfl⟩;rw [hys] at hO hcz hbx;have HYS := qa hys;have HO := qa (Kd.R_drew hO);have HBX := qa (blk_drew hbx);have HBW := qa (below_drew1 hb);have HKF := qa (ch_kf_below (B := w7.heap.size) (below_drew1 (Below.refl W.heap.size W)));have HKP := qa (chKp.of_below (N := w7.heap.size) (P := fun i => i = w.heap.size ∨ i = w.heap.size + 1) (below_drew1 (Below.refl W.heap.size W)) hN);have HNN := qa (show w7.heap.size ≤ W.drew.heap.size from hN);have HLT := qa hlt;clear hO hbx hb hys hN hcz hlt;gi_wp2
   refine rg_start (n := 6) (S := fun w' => w'.cell? ⟨w.heap.size + 1, 0, none⟩ = some (.slice A ys.length c)) (ds := [4, 5]) #[false, false, false, false, false, false] hmx rfl rfl (by kernel_rfl) (by rintro ⟨_, _, h⟩; exact h) ((blk_cell HBX.out 0).trans rfl) (fun hHeld => ?_);generalize W.drew = wd0 at HO HBX HBW HKF HKP HNN hHeld ⊢;refine take_ (i := 0) (N := some 31) (v := ?_) (a' := ?_) #[true, false, false, false, false, false] rfl rfl (by kernel_rfl) (fun _ _ _ h => h) (Or.inl ⟨by rfl, ?_⟩) hHeld ?_ ?_;rotate_left
   ·rintro w' s0;go_simp
    with_reducible rfl
   rotate_left
   ·simp only [Act.put, List.setIfInBounds_toArray, List.set_cons_zero, List.set_cons_succ, i64_w, i32_w];rfl
   refine pure_ (i := 1) (N := some 32) (v := ?_) (a' := ?_) #[true, true, false, false, false, false] rfl rfl (by kernel_rfl) (fun _ _ _ h => h) (Or.inl ⟨by rfl, ?_⟩) ?_ ?_;rotate_left
   ·intro w';go_simp
    with_reducible rfl
   rotate_left
   ·simp only [Act.put, List.setIfInBounds_toArray, List.set_cons_zero, List.set_cons_succ, i64_w, i32_w];rfl
   refine one_ (i := 2) (N := some 33) #[true, true, true, false, false, false] rfl rfl (by kernel_rfl) (by decide) (fun K hK => ?_);refine goes_ Tryz.func50 (by kernel_rfl) rfl #[.slice (some x.1.1) x.1.2.1.length x.1.2.1.length] (by rfl) rfl rfl qG ?_;with_reducible refine (impl_wordOf.calls 10 _ _ x.1.2.1 x.1.2.2 _ (Kd.C_below x.2.1 HBW.out) (Nat.le_refl _) x.2.2.2).mono ?_
   rintro e w' ⟨rfl, ⟨nd3, rfl⟩⟩;refine ⟨_, rfl, ?_⟩;refine hK.out _ _ hHeld (fun hHeld => ?_);clear hK K;refine norm_ (a' := ?_) ?_ ?_;rotate_left
   ·show Act.put _ (some 33) _ = _;simp only [Act.put, List.setIfInBounds_toArray, List.set_cons_zero, List.set_cons_succ, i64_w, i32_w];rfl
   refine one_ (i := 3) (N := some 34) #[true, true, true, true, false, false] rfl rfl (by kernel_rfl) (by decide) (fun K hK => ?_);refine value_ (w1 := ?_) (v := ?_) (by rfl) rfl ?_ ?_;rotate_left 2
   ·go_simp
    constructor
    ·rfl
    ·rfl
   refine hK.out _ _ ((blk_cell (blk_alloc (blk_drewN HBX.out nd3) _) 0).trans rfl) (fun hHeld => ?_);clear hK K;refine norm_ (a' := ?_) ?_ ?_;rotate_left
   ·show Act.put _ (some 34) _ = _;simp only [Act.put, List.setIfInBounds_toArray, List.set_cons_zero, List.set_cons_succ, i64_w, i32_w];rfl
   refine last_ (i := 4) (N := some 35) #[true, true, true, true, true, false] rfl rfl (by kernel_rfl) (by decide) (fun K hK => ?_);have hpl : ys.length ≤ 16 := by
    have h1 := HLT.out;rw [← HYS.out, List.length_map];omega
   refine Kd.R_append_step (Kd.int .u64) (w0 := w) w.heap.size (by rfl) (.tmp 31) (.tmp 34) 24 51 (.int .u64 0) 8 rfl Tryz.underlying24 info51 rfl (by decide) (by omega) (.slice A ys.length c) ys x.1.2.2 [.int .u64 x.1.2.2] (fun k => k = w.heap.size ∨ w7.heap.size ≤ k) (fun _ => False) rfl rfl ?aP (fun _ hk => hk.elim) ?aF ?aO ?aB ?aS ?aL ?_;(case aP => exact rfl)
   (case aF => exact fun k hk => .inr (Nat.le_trans HNN.out hk))
   (case aO => exact Kd.R_drewN HO.out _)
   (case aB => exact pw_below_drewN HBW.out _)
   (case aS => exact below_size (pw_below_drewN HBW.out _))
   (case aL => omega)
   intro v1 w4 ho hb4 hg4 hat4;obtain ⟨A4, c4, e4⟩ := Kd.R_slice ho;rw [show (ys ++ [x.1.2.2]).length = ys.length + 1 by simp] at e4;subst e4;have HKF3 : KeepsFrom w7.heap.size W (wd0.drewN nd3) := ⟨HKF.out.1, HKF.out.2⟩;have HKP3 : chKp w7.heap.size (fun i => i = w.heap.size ∨ i = w.heap.size + 1) W (wd0.drewN nd3) := ⟨HKP.out.1, HKP.out.2⟩;have hbx4 := blk_grown (blk_drewN HBX.out nd3) hg4 (Kd.R_ne (Kd.R_drewN HO.out nd3) (blk_drewN HBX.out nd3) (by decide));have hcz4 : w4.cell? ⟨w.heap.size + 1, 0, none⟩ = some (.slice A ys.length c) := (blk_cell hbx4 0).trans rfl;have hfz4 := blk_frozen hbx4 0;refine hK.out _ _ ?_;clear hK K;refine norm_ (a' := ?_) ?_ ?_;rotate_left
   ·show Act.put _ (some 35) _ = _;simp only [Act.put, List.setIfInBounds_toArray, List.set_cons_zero, List.set_cons_succ, i64_w, i32_w];rfl
   refine last_ (i := 5) (N := none) #[true, true, true, true, true, true] rfl rfl (by kernel_rfl) (by decide) (fun K hK => ?_);refine skip_ (w1 := ?_) (by rfl) rfl ?_ ?_;rotate_left
   ·go_simp
    rfl
   refine hK.out _ _ ?_;clear hK K;refine done_ (by kernel_rfl) ?_;have hkf4 : KeepsFrom w7.heap.size W w4 := HKF3.trans (ch_kf_grown hg4 (fun k hk => by obtain ⟨cells, hc⟩ := Kd.R_typed (Kd.R_drewN HO.out nd3) k hk; exact ⟨cells, _, hc⟩));have hkp4 : chKp w7.heap.size (fun i => i = w.heap.size ∨ i = w.heap.size + 1) W w4 := HKP3.trans (chKp.of_grown hg4 (show w7.heap.size ≤ (wd0.drewN nd3).heap.size from HNN.out) (fun k hk => (HO.out.1 k hk).elim (fun h => .inl (.inl h)) .inr));refine ⟨hkf4.trans ((KeepsOthers.setCell _ _ _).from _), hkp4.trans ⟨by simp [World.setCell], fun i _ hp => Below.heap_setCell _ _ _ i (fun e => hp (.inr e))⟩, ⟨_, blk_put hbx4 0 _ rfl, ?_⟩, ?_, below_set hb4 (by omega)⟩
   ·rw [List.map_append, HYS.out];exact Kd.R_set ho hbx4 (by decide) 0 _
   ·exact Nat.le_trans (Nat.le_trans HNN.out hg4.size) (by simp [World.setCell])
  case done =>
   rintro D zs W hD rfl ⟨⟨v, hbx, hO⟩, hN, hb⟩ hKd;obtain ⟨A, c, rfl⟩ := Kd.R_slice hO;have hcz : W.cell? ⟨w.heap.size + 1, 0, none⟩ = _ := (blk_cell hbx 0).trans rfl;go_wp2
   refine ⟨by simp, .inl ⟨_, _, rfl, run_takeDeferred hKd, ?_⟩⟩;refine ⟨_, results_tmp2 rfl _ _ _, _, rfl, ?_, hb.trans (belowK_b (w := w) (Nat.le_refl _) W D _ _ (by have := HB7.size; omega) hKd rfl rfl)⟩;rw [hxv, hlen] at hO;exact Kd.R_mono (Kd.R_move (Kd.R_bound hO) (fun k hk => by
    obtain ⟨_, _, hlt, q, _, cells, hc⟩ := hk;refine (grownBy_putObj' W D _).block k hlt (fun e => ?_);cases e;rw [hc] at hKd;cases hKd)) (fun _ _ => trivial)
  case stop =>
   rintro D c pre W _ _ h _;exact h.elim
 ·rw [if_neg hg] at h;cases h;by_cases hl : 1 ≤ a0 ∧ a0 ≤ 4
  ·obtain ⟨wd, rfl⟩ : ∃ wd : Nat, a0 = (wd : Int) := ⟨a0.toNat, by omega⟩;have hw1 : 1 ≤ wd := (by omega);have hwz : decide ((wd : Int) = 0) = false := decide_eq_false (by omega);have hwn : ¬ wd = 0 := (by omega);have AL : Aside0 (impl_isLaid.f (wd : Int) = some true) := ⟨by unfold impl_isLaid.f; rw [if_pos (by omega), decide_eq_true (by omega)]⟩;by_cases hm : (l1.length : Int) % (wd : Int) = 0
   ·have hmb : (((l1.length : Int) % (wd : Int)) != 0) = false := (by rw [hm]; rfl);have hwr : wrap64 ((l1.length : Int) / (wd : Int)) = (l1.length : Int) / (wd : Int) := ch_div l1.length wd hm1;have A2 : Aside0 (impl_isVars.f (wrap64 ((l1.length : Int) / (wd : Int))) = some false) := ⟨by
     rw [hwr];unfold impl_isVars.f;split
     ·rename_i h1
      congr 1;refine decide_eq_false (fun h2 => hg ?_);unfold chGood;simp only [Bool.and_eq_true, decide_eq_true_eq];exact ⟨by omega, by omega, hm, by omega, h2⟩
     ·rfl⟩
    clear hg hm hl hwr;go_enter Tryz.func24, Tryz.ntmps24
    go_wp2_with (first | (go_at_call 37; (with_reducible refine (impl_isLaid.calls _ _ _ AL.out).mono ?_); rintro e w1 ⟨rfl, ⟨nd, rfl⟩⟩) | (go_at_call 48; (with_reducible refine (impl_isVars.calls _ _ _ A2.out).mono ?_); rintro e w1 ⟨rfl, ⟨nd, rfl⟩⟩))
    go_ret2
    exact ⟨_, rfl, Kd.R_nil _ _ _ _ _, by repeat (first | exact Below.refl _ _ | apply pw_below_drewN)⟩
   ·have hmb : (((l1.length : Int) % (wd : Int)) != 0) = true := bne_iff_ne.mpr hm;clear hg hm hl;go_enter Tryz.func24, Tryz.ntmps24
    go_wp2_with (first | (go_at_call 37; (with_reducible refine (impl_isLaid.calls _ _ _ AL.out).mono ?_); rintro e w1 ⟨rfl, ⟨nd, rfl⟩⟩))
    go_ret2
    exact ⟨_, rfl, Kd.R_nil _ _ _ _ _, by repeat (first | exact Below.refl _ _ | apply pw_below_drewN)⟩
  ·have AL : Aside0 (impl_isLaid.f a0 = some false) := ⟨by
    unfold impl_isLaid.f;split
    ·congr 1; exact decide_eq_false (by omega)
    ·rfl⟩
   clear hg hl;go_enter Tryz.func24, Tryz.ntmps24
   go_wp2_with (first | (go_at_call 37; (with_reducible refine (impl_isLaid.calls _ _ _ AL.out).mono ?_); rintro e w1 ⟨rfl, ⟨nd, rfl⟩⟩))
   go_ret2
   exact ⟨_, rfl, Kd.R_nil _ _ _ _ _, by repeat (first | exact Below.refl _ _ | apply pw_below_drewN)⟩
def impl_SolveTerm.j0 : Nat → Int → Int → Bool → Int → List (S75) → List Int → Option (Int × List Int × Bool)
 | 0, _, _, _, _, _, _ => none
 | k + 1, x0, x3, x34, x554000, x554001, x554002 => if x34 = true then (some (0, ([] : List Int), false)) else ((impl_CnfFor.f k x554000 x554001 x554002 (([true] : List Bool))).bind fun bt558 => (if bt558.2.2 = true then ((impl_Solve.f k bt558.1 bt558.2.1 x3).bind fun bt564 => (if bt564.2.2.2 = true then (if bt564.1 = 1 then (if 0 ≤ x554000 then (if x554000 ≤ (bt564.2.1.length : Int) then ((impl_StateFrom.f x0 (bt564.2.1.take (x554000 : Int).toNat)).bind fun bt575 => (some (bt564.1, bt575.1, true))) else (none)) else (none)) else (some (bt564.1, ([] : List Int), bt564.2.2.2))) else (some (bt564.1, ([] : List Int), bt564.2.2.2)))) else (some (0, ([] : List Int), false))))
def impl_SolveTerm.f (k : Nat) (a0 : Int) (a1 : Int) (l2 : List (S53)) (a3 : Int) : Option (Int × List Int × Bool) := (impl_GatesFor.f k a0 a1 l2).bind fun bt545 => (if bt545.2.2.2 = true then ((impl_kindOf.f k l2).bind fun t554 => (impl_SolveTerm.j0 k a0 a3 (t554 != 2) bt545.1 bt545.2.1 bt545.2.2.1)) else (impl_SolveTerm.j0 k a0 a3 true bt545.1 bt545.2.1 bt545.2.2.1))
theorem impl_SolveTerm.mono_l : ∀ k, (∀ y0 y1 y2 y3 y4 y5, LeO (impl_SolveTerm.j0 k y0 y1 y2 y3 y4 y5) (impl_SolveTerm.j0 (k + 1) y0 y1 y2 y3 y4 y5))
 | 0 => fun _ _ _ _ _ _ r h => by simp [impl_SolveTerm.j0] at h
 | k + 1 => by
  have ih0 := impl_SolveTerm.mono_l k
  ·intros;unfold impl_SolveTerm.j0;have m0 := @impl_CnfFor.mono; have m1 := @impl_GatesFor.mono; have m2 := @impl_Solve.mono; have m3 := @impl_kindOf.mono; exact qM
theorem impl_SolveTerm.mono : ∀ a0 a1 a2 a3 k, LeO (impl_SolveTerm.f k a0 a1 a2 a3) (impl_SolveTerm.f (k + 1) a0 a1 a2 a3) := by
 intro a0 a1 a2 a3 k;have ih0 := impl_SolveTerm.mono_l k;unfold impl_SolveTerm.f;have m0 := @impl_CnfFor.mono; have m1 := @impl_GatesFor.mono; have m2 := @impl_Solve.mono; have m3 := @impl_kindOf.mono; exact qM
theorem impl_SolveTerm.calls (k : Nat) (a0 : Int) (a1 : Int) (A2 : Option Addr) (c2 : Nat) (l2 : List (S53)) (a3 : Int) (r1 : Int) (r2 : List Int) (r3 : Bool) (w : World) (hr2 : Kd.C k53 w A2 l2.length l2) (hc2 : l2.length ≤ c2) (h : impl_SolveTerm.f k a0 a1 l2 a3 = some (r1, r2, r3)) :
  Calls Tryz.prog 7 #[.int .i64 a0, .int .i64 a1, .slice A2 l2.length c2, .int .i64 a3] w fun e w' => ∃ v1_ : Value, e = .returned (.tuple #[.int .i64 r1, v1_, .bool r3]) ∧ Kd.R (Kd.int .u64) 51 w' w.heap.size (fun _ => True) v1_ r2 ∧ Below w.heap.size w w' := by
 have hu37 := Tryz.underlying37;have hu47 := Tryz.underlying47;have HR2 := qa hr2;have HC2 := qa hc2;clear hr2 hc2;have HB := qa (Below.refl w.heap.size w);have H := h;unfold impl_SolveTerm.f at H;clear h;replace H := Option.bind_eq_some_iff.mp H;obtain ⟨⟨t545, t546, t549, t552⟩, A50, H⟩ := H;try dsimp only at H
 have A5 := qa A50;clear A50;have HC6 := qa H;clear H;go_enter Tryz.func7, Tryz.ntmps7
 go_upto_region 2 with (first | (go_at_call 20; (with_reducible refine (impl_GatesFor.calls k a0 a1 _ _ l2 t545 t546 t549 t552 _ ?side1 ?side2 A5.out).mono ?_); (case side1 => exact qC HR2.out); (case side2 => exact HC2.out); rintro e w7 ⟨v547, v550, rfl, ho0, ho1, hb⟩; have HO548 := qa (Kd.R_lower ho0 (below_size (qB))); have HO551 := qa (Kd.R_lower ho1 (below_size (qB))); replace HB := qa (below_step (qB) hb); (try clear hb); (try clear hb2); (try clear hk); (try clear hi); (try clear ho0); (try clear ho1)) | ((with_reducible refine gate_dst (N := 11) rfl ?_); refine box_event rfl (N := 11) rfl (cs := #[.int .i64 0, .slice none 0 0, .slice none 0 0]) (t := 37) qW ?_; intro gb553 hg w8 hbox hb; replace HO548 := qa (Kd.R_below (qR HO548.out) hb); replace HO551 := qa (Kd.R_below (qR HO551.out) hb); have BK553 := qa (hbox); have GW553 := qg w hg; replace HB := qa (below_step (qB) hb); clear hb hbox hg; have hcz9 := blk_cell BK553.out; have hfz9 := blk_frozen BK553.out; obtain ⟨Ao10, co10, eo10⟩ := Kd.R_slice HO548.out; subst eo10; obtain ⟨Ao11, co11, eo11⟩ := Kd.R_slice HO551.out; subst eo11))
 (try simp only [Act.put, List.setIfInBounds_toArray, List.set_cons_zero, List.set_cons_succ])
 go_cut [34] (fun v34 wc => ∃ (kq : Nat) (x34_5 : Bool), v34 = .bool x34_5 ∧ Aside0 (impl_SolveTerm.j0 kq a0 a3 x34_5 t545 t546 t549 = some (r1, r2, r3)) ∧ Aside0 (kq ≤ k) ∧ Aside0 (Kd.R k75 75 wc w.heap.size (fun _ => True) (.slice Ao10 t546.length co10) t546) ∧ Aside0 (Kd.R (Kd.int .i64) 3 wc w.heap.size (fun _ => True) (.slice Ao11 t549.length co11) t549) ∧ Aside0 (wc.heap[gb553]? = some (.cells #[.int .i64 t545, (.slice Ao10 t546.length co10), (.slice Ao11 t549.length co11)] 37 (0, 0))) ∧ Aside0 (Below w.heap.size w wc))
 case first =>
  have H := HC6.out;clear HC6;by_cases c12 : t552 = true
  ·subst c12;rw [if_pos rfl] at H;replace H := Option.bind_eq_some_iff.mp H;obtain ⟨t554, A130, H⟩ := H;try dsimp only at H
   have A13 := qa A130;clear A130;have H' := qa H;clear H;go_wp2_with (first | (go_at_call 21; (with_reducible refine (impl_kindOf.calls k _ _ l2 t554 _ ?side1 ?side2 A13.out).mono ?_); (case side1 => exact Kd.C_below HR2.out (qB)); (case side2 => exact HC2.out); rintro e w' ⟨rfl, ⟨nd, rfl⟩⟩))
   go_meet
   case rel => exact ⟨_, ((t554 != 2)), qS, H', ⟨by first | omega | exact Nat.le_refl _⟩, ⟨by (with_reducible repeat (first | apply Kd.R_alloc | apply Kd.R_drewN | apply Kd.R_drew)); exact Kd.R_mono (Kd.R_far (p := ⟨gb553, 2, none⟩) (Kd.R_far (p := ⟨gb553, 1, none⟩) (Kd.R_far (p := ⟨gb553, 0, none⟩) (Kd.R_types HO548.out BK553.out (by decide)) (fun _ hk => hk.2) (.int .i64 t545)) (fun _ hk => hk.2) (.slice Ao10 t546.length co10)) (fun _ hk => hk.2) (.slice Ao11 t549.length co11)) (fun _ hk => trivial)⟩, ⟨by (with_reducible repeat (first | apply Kd.R_alloc | apply Kd.R_drewN | apply Kd.R_drew)); exact Kd.R_mono (Kd.R_far (p := ⟨gb553, 2, none⟩) (Kd.R_far (p := ⟨gb553, 1, none⟩) (Kd.R_far (p := ⟨gb553, 0, none⟩) (Kd.R_types HO551.out BK553.out (by decide)) (fun _ hk => hk.2) (.int .i64 t545)) (fun _ hk => hk.2) (.slice Ao10 t546.length co10)) (fun _ hk => hk.2) (.slice Ao11 t549.length co11)) (fun _ hk => trivial)⟩, ⟨qP BK553.out⟩, ⟨qB⟩⟩
  ·replace c12 := Bool.eq_false_iff.mpr c12;subst c12;rw [if_neg (show ¬ (false = true) by decide)] at H;have H' := qa H;clear H;go_wp2
   go_meet
   case rel => exact ⟨_, (true), qS, H', ⟨by first | omega | exact Nat.le_refl _⟩, ⟨by (with_reducible repeat (first | apply Kd.R_alloc | apply Kd.R_drewN | apply Kd.R_drew)); exact Kd.R_mono (Kd.R_far (p := ⟨gb553, 2, none⟩) (Kd.R_far (p := ⟨gb553, 1, none⟩) (Kd.R_far (p := ⟨gb553, 0, none⟩) (Kd.R_types HO548.out BK553.out (by decide)) (fun _ hk => hk.2) (.int .i64 t545)) (fun _ hk => hk.2) (.slice Ao10 t546.length co10)) (fun _ hk => hk.2) (.slice Ao11 t549.length co11)) (fun _ hk => trivial)⟩, ⟨by (with_reducible repeat (first | apply Kd.R_alloc | apply Kd.R_drewN | apply Kd.R_drew)); exact Kd.R_mono (Kd.R_far (p := ⟨gb553, 2, none⟩) (Kd.R_far (p := ⟨gb553, 1, none⟩) (Kd.R_far (p := ⟨gb553, 0, none⟩) (Kd.R_types HO551.out BK553.out (by decide)) (fun _ hk => hk.2) (.int .i64 t545)) (fun _ hk => hk.2) (.slice Ao10 t546.length co10)) (fun _ hk => hk.2) (.slice Ao11 t549.length co11)) (fun _ hk => trivial)⟩, ⟨qP BK553.out⟩, ⟨qB⟩⟩
 case rest =>
  clear HC6;obtain ⟨kq, x34_5, rfl, HA, HJ5, HO_554001, HO_554002, BK553, HB⟩ := hcut;cases kq with
  | zero => exact absurd HA.out (by simp [impl_SolveTerm.j0])
  | succ kj5 =>
   have H := HA.out;clear HA;simp only [impl_SolveTerm.j0] at H;by_cases c14 : x34_5 = true
   ·subst c14;rw [if_pos rfl] at H;simp only [Option.some.injEq, Prod.mk.injEq] at H;obtain ⟨rfl, rfl, rfl⟩ := H;go_wp2
    go_ret3
    exact ⟨_, qE, by first | exact Kd.R_nil _ _ _ _ _ | exact Kd.N_nil _ _ _ _ _ | exact Kd.V_nil _ _ _ _ _ | exact Kd.Q_nil _ _ _ _ _ | exact Kd.S_nil _ _ _ _ _, qB⟩
   ·replace c14 := Bool.eq_false_iff.mpr c14;subst c14;rw [if_neg (show ¬ (false = true) by decide)] at H;obtain ⟨y555, hy555⟩ : ∃ y_ : List Bool, y_ = (([true] : List Bool)) := ⟨_, rfl⟩;rw [← hy555] at H;try rw [Option.bind_some] at H
    have Ny555 := qa hy555;clear hy555;replace H := Option.bind_eq_some_iff.mp H;obtain ⟨⟨t558, t559, t562⟩, A150, H⟩ := H;try dsimp only at H
    have A15 := qa A150;clear A150;by_cases c16 : t562 = true
    ·subst c16;rw [if_pos rfl] at H;replace H := Option.bind_eq_some_iff.mp H;obtain ⟨⟨t564, t565, t568, t569⟩, A170, H⟩ := H;try dsimp only at H
     have A17 := qa A170;clear A170;by_cases c18 : t569 = true
     ·subst c18;rw [if_pos rfl] at H;by_cases c19 : t564 = 1
      ·rw [if_pos c19] at H;obtain ⟨c19b0, c19b1⟩ := qb1 c19;clear c19;obtain ⟨c20, H⟩ := qI H;have c20b0 := eq_true c20;have c20b1 : decide (0 ≤ t545) = true := decide_eq_true c20;clear c20;obtain ⟨c21, H⟩ := qI H;have c21b0 := eq_true c21;have c21b1 : decide (t545 ≤ (t565.length : Int)) = true := decide_eq_true c21;clear c21;obtain ⟨y570, hy570⟩ : ∃ y_ : List Bool, y_ = (t565.take (t545 : Int).toNat) := ⟨_, rfl⟩;rw [← hy570] at H;try rw [Option.bind_some] at H
       have Ny570 := qa hy570;clear hy570;replace H := Option.bind_eq_some_iff.mp H;obtain ⟨⟨t575, t576⟩, A220, H⟩ := H;try dsimp only at H
       have A22 := qa A220;clear A220;simp only [Option.some.injEq, Prod.mk.injEq] at H;obtain ⟨rfl, rfl, rfl⟩ := H;have hcz23 := blk_cell BK553.out;have hcz23_1 := blk_cell BK553.out 1;have hcz23_2 := blk_cell BK553.out 2;have hfz23 := blk_frozen BK553.out;have hfz23_1 := blk_frozen BK553.out 1;have hfz23_2 := blk_frozen BK553.out 2;go_wp2_with (first | ((with_reducible refine gate_dst (N := 37) rfl ?_); refine Kd.R_lit Kd.bool _ 4 rfl (N := 37) rfl (xs := ([true] : List Bool)) (inner := [.bool true]) (ok := fun _ => True) (okp := fun _ => True) qW ?hp (fun _ hk => hk) trivial (Below.refl _ _) (Nat.le_refl _) (by simp) ?_; (case hp => exact (Reps.one (show Kd.M Kd.bool _ _ _ true [.bool true] from rfl) (Reps.none _ _))); intro v556 w24 ho25 hb hg_ hnew_; clear hg_ hnew_; (first | rw [← Ny555.out] at ho25 | (simp only [Int.reduceToNat] at ho25; rw [← Ny555.out] at ho25)); replace HO_554001 := qa (Kd.R_below (qR HO_554001.out) hb); replace HO_554002 := qa (Kd.R_below (qR HO_554002.out) hb); have HO557 := qa (Kd.R_lower ho25 (below_size (qB))); replace BK553 := qa (blk_below (qK BK553.out) hb); replace HB := qa (below_step (qB) hb); clear hb ho25; obtain ⟨Ao26, co26, eo26⟩ := Kd.R_slice HO557.out; subst eo26) | (go_at_call 22; (with_reducible refine (impl_CnfFor.calls kj5 t545 _ _ t546 _ _ t549 _ _ y555 t558 t559 true _ ?side1 ?side2 ?side3 ?side4 ?side5 ?side6 A15.out).mono ?_); (case side1 => exact qC (Kd.R_reads' HO_554001.out).2.2); (case side2 => exact (Kd.R_reads' HO_554001.out).2.1); (case side3 => exact qC (Kd.R_reads' HO_554002.out).2.2); (case side4 => exact (Kd.R_reads' HO_554002.out).2.1); (case side5 => exact qC (Kd.R_reads' HO557.out).2.2); (case side6 => exact (Kd.R_reads' HO557.out).2.1); rintro e w27 ⟨v560, rfl, ho0, hb⟩; have HO561 := qa (Kd.N_lower (Kd.N_mono (ok' := fun k_ => some k_ ≠ (.slice Ao10 t546.length co10 : Value).ownBlock ∧ some k_ ≠ (.slice Ao11 t549.length co11 : Value).ownBlock ∧ some k_ ≠ (.slice Ao26 y555.length co26 : Value).ownBlock ∧ k_ ≠ gb553) ho0 (fun k_ hk_ => ⟨(Kd.fresh' (Kd.R_lt (qR HO_554001.out)) k_ hk_), (Kd.fresh' (Kd.R_lt (qR HO_554002.out)) k_ hk_), (Kd.fresh' (Kd.R_lt (qR HO557.out)) k_ hk_), (Kd.freshB (g := gb553) (o := .cells #[.int .i64 t545, .slice Ao10 t546.length co10, .slice Ao11 t549.length co11] 37 (0, 0)) (qK BK553.out) k_ hk_)⟩)) (below_size (qB))); replace HO_554001 := qa (Kd.R_below (qR HO_554001.out) hb); replace HO_554002 := qa (Kd.R_below (qR HO_554002.out) hb); replace HO557 := qa (Kd.R_below (qR HO557.out) hb); replace BK553 := qa (blk_below (qK BK553.out) hb); replace HB := qa (below_step (qB) hb); (try clear hb); (try clear hb2); (try clear hk); (try clear hi); (try clear ho0)) | ((with_reducible refine gate_dst (N := 13) rfl ?_); refine box_event rfl (N := 13) rfl (cs := #[.int .i64 0, .slice none 0 0]) (t := 47) qW ?_; intro gb563 hg w28 hbox hb; replace HO_554001 := qa (Kd.R_below (qR HO_554001.out) hb); replace HO_554002 := qa (Kd.R_below (qR HO_554002.out) hb); replace HO557 := qa (Kd.R_below (qR HO557.out) hb); replace HO561 := qa (Kd.N_below (Kd.N_elderB (qN HO561.out) gb563 (Nat.le_of_eq hg.symm)) hb); have BK563 := qa (hbox); have GW563 := qg w hg; replace HB := qa (below_step (qB) hb); have NB553_563 := qnl hg (qK BK553.out); have NB563_553 := qng hg (qK BK553.out); replace BK553 := qa (blk_below (qK BK553.out) hb); clear hb hbox hg; have hnb29 := NB563_553.out; have hnc29 := NB553_563.out; have hcz30 := blk_cell BK563.out; have hfz30 := blk_frozen BK563.out; obtain ⟨Ao31, co31, eo31⟩ := Kd.N_slice HO561.out; subst eo31) | (go_at_call 23; (with_reducible refine (impl_Solve.calls kj5 t558 _ _ t559 a3 t564 t565 t568 true _ ?side1 ?side2 A17.out).mono ?_); (case side1 => refine (Kd.N_reads' (e := 35) (base := w.heap.size) (ok := fun k_ => ((some k_ ≠ (.slice Ao10 t546.length co10 : Value).ownBlock ∧ (some k_ ≠ (.slice Ao11 t549.length co11 : Value).ownBlock ∧ (some k_ ≠ (.slice Ao26 y555.length co26 : Value).ownBlock ∧ k_ ≠ gb553))) ∧ k_ ≠ gb563)) (n := t559.length) (c := co31) ?_).2.2; exact (by (with_reducible repeat (first | apply Kd.N_alloc | apply Kd.N_drewN | apply Kd.N_drew)); exact (Kd.N_mono (Kd.N_far (p := ⟨gb563, 1, none⟩) (Kd.N_far (p := ⟨gb563, 0, none⟩) (Kd.N_mono HO561.out (fun k_ hk => (⟨hk, hk.2⟩ : _ ∧ k_ ≠ gb563))) (fun _ hk => hk.2) (.int .i64 t558)) (fun _ hk => hk.2) (.slice Ao31 t559.length co31)) (fun _ h_ => h_.1)))); (case side2 => exact (Kd.N_reads' HO561.out).2.1); rintro e w32 ⟨v566, rfl, ho0, hb⟩; replace HO_554001 := qa (Kd.R_below (by (with_reducible repeat (first | apply Kd.R_alloc | apply Kd.R_drewN | apply Kd.R_drew)); exact (Kd.R_mono (Kd.R_far (p := ⟨gb563, 1, none⟩) (Kd.R_far (p := ⟨gb563, 0, none⟩) (Kd.R_types HO_554001.out BK563.out (by decide)) (fun _ hk => hk.2) (.int .i64 t558)) (fun _ hk => hk.2) (.slice Ao31 t559.length co31)) (fun _ h_ => h_.1))) hb); replace HO_554002 := qa (Kd.R_below (by (with_reducible repeat (first | apply Kd.R_alloc | apply Kd.R_drewN | apply Kd.R_drew)); exact (Kd.R_mono (Kd.R_far (p := ⟨gb563, 1, none⟩) (Kd.R_far (p := ⟨gb563, 0, none⟩) (Kd.R_types HO_554002.out BK563.out (by decide)) (fun _ hk => hk.2) (.int .i64 t558)) (fun _ hk => hk.2) (.slice Ao31 t559.length co31)) (fun _ h_ => h_.1))) hb); replace HO561 := qa (Kd.N_elder' (by (with_reducible repeat (first | apply Kd.N_alloc | apply Kd.N_drewN | apply Kd.N_drew)); exact (Kd.N_mono (Kd.N_far (p := ⟨gb563, 1, none⟩) (Kd.N_far (p := ⟨gb563, 0, none⟩) (Kd.N_mono HO561.out (fun k_ hk => (⟨hk, hk.2⟩ : _ ∧ k_ ≠ gb563))) (fun _ hk => hk.2) (.int .i64 t558)) (fun _ hk => hk.2) (.slice Ao31 t559.length co31)) (fun _ h_ => h_.1))) (Kd.R_base ho0) hb); have HO567 := qa (Kd.R_lower (Kd.R_new' ho0 (Kd.R_lt (by (with_reducible repeat (first | apply Kd.R_alloc | apply Kd.R_drewN | apply Kd.R_drew)); exact (Kd.R_mono (Kd.R_far (p := ⟨gb563, 1, none⟩) (Kd.R_far (p := ⟨gb563, 0, none⟩) (Kd.R_types HO557.out BK563.out (by decide)) (fun _ hk => hk.2) (.int .i64 t558)) (fun _ hk => hk.2) (.slice Ao31 t559.length co31)) (fun _ h_ => h_.1))))) (below_size (qB))); replace HO557 := qa (Kd.R_elder' (by (with_reducible repeat (first | apply Kd.R_alloc | apply Kd.R_drewN | apply Kd.R_drew)); exact (Kd.R_mono (Kd.R_far (p := ⟨gb563, 1, none⟩) (Kd.R_far (p := ⟨gb563, 0, none⟩) (Kd.R_types HO557.out BK563.out (by decide)) (fun _ hk => hk.2) (.int .i64 t558)) (fun _ hk => hk.2) (.slice Ao31 t559.length co31)) (fun _ h_ => h_.1))) (Kd.R_base ho0) hb); replace BK553 := qa (blk_below (g := gb553) (o := .cells #[.int .i64 t545, .slice Ao10 t546.length co10, .slice Ao11 t549.length co11] 37 (0, 0)) (qF BK553.out) hb); replace BK563 := qa (blk_below (g := gb563) (o := .cells #[.int .i64 t558, .slice Ao31 t559.length co31] 47 (0, 0)) (qP BK563.out) hb); replace HB := qa (below_step (qB) hb); (try clear hb); (try clear hb2); (try clear hk); (try clear hi); (try clear ho0); have hcz33 := blk_cell BK553.out; have hfz33 := blk_frozen BK553.out; obtain ⟨Ao35, co35, eo35⟩ := Kd.R_slice HO567.out; subst eo35; have q34 : (t545 : Int) ≤ ((t565.length : Int) : Int) := qD; obtain ⟨i034, hi034, _, hsz34, _⟩ := info_parts info4; have hroom34 : t565.length ≤ co35 := (Kd.R_reads' HO567.out).2.1; have hC34 : Kd.F Kd.bool _ _ Ao35 t565.length t565 := (Kd.V_at (base := w.heap.size) (Kd.R_V (Kd.R_types (Kd.R_types (Kd.R_apart' (Kd.R_apart' (Kd.R_apart' (HO567.out) (Kd.R_typed HO_554001.out) (by decide)) (Kd.R_typed HO_554002.out) (by decide)) (Kd.N_typed HO561.out) (by decide)) BK553.out (by decide)) BK563.out (by decide)))).2.2; have hcut34 := cut_to (P := Tryz.prog) 42 4 .i64 Tryz.underlying42 hi034 Ao35 t565.length co35 t545 qD q34 hroom34; have hr34 := Kd.F_take (m := (t545 : Int).toNat) hC34 (by omega); have hy34 : y570.length = (t545 : Int).toNat := (by rw [Ny570.out, List.length_take]; omega); rw [← Ny570.out] at hr34; rw [← hy34] at hcut34; have HO574 := qa (show Kd.V Kd.bool 4 _ w.heap.size _ (.slice Ao35 y570.length co35) y570 from Kd.V_mk (by omega) hr34); have HC574 := qa (show y570.length ≤ co35 from by omega); clear hr34 hC34 hroom34 hi034 hsz34; have KY34 := qa hy34; clear hy34; replace q34 := eq_true q34) | (go_at_call 24; (with_reducible refine (impl_StateFrom.calls a0 _ _ y570 t575 t576 _ ?side1 ?side2 A22.out).mono ?_); (case side1 => exact qC (Kd.V_reads' HO574.out).2.2); (case side2 => exact (Kd.V_reads' HO574.out).2.1); rintro e w36 ⟨v577, rfl, ho0, hb⟩; replace HO_554001 := qa (Kd.R_below (qR HO_554001.out) hb); replace HO_554002 := qa (Kd.R_below (qR HO_554002.out) hb); replace HO557 := qa (Kd.R_below (qR HO557.out) hb); replace HO561 := qa (Kd.N_elder' (qN HO561.out) (Kd.R_base ho0) hb); replace HO567 := qa (Kd.R_below (qR HO567.out) hb); replace HO574 := qa (Kd.V_elder' (by (with_reducible repeat (first | apply Kd.V_alloc | apply Kd.V_drewN | apply Kd.V_drew)); exact HO574.out) (Kd.R_base ho0) hb); have HO578 := qa (Kd.R_lower ho0 (below_size (qB))); replace BK553 := qa (blk_below (qK BK553.out) hb); replace BK563 := qa (blk_below (qK BK563.out) hb); replace HB := qa (below_step (qB) hb); (try clear hb); (try clear hb2); (try clear hk); (try clear hi); (try clear ho0)))
       go_ret3
       exact ⟨_, qE, qR HO578.out, qB⟩
      ·rw [if_neg c19] at H;obtain ⟨c19b0, c19b1⟩ := qb0 c19;simp only [Option.some.injEq, Prod.mk.injEq] at H;obtain ⟨rfl, rfl, rfl⟩ := H;have hcz37 := blk_cell BK553.out;have hcz37_1 := blk_cell BK553.out 1;have hcz37_2 := blk_cell BK553.out 2;have hfz37 := blk_frozen BK553.out;have hfz37_1 := blk_frozen BK553.out 1;have hfz37_2 := blk_frozen BK553.out 2;go_wp2_with (first | ((with_reducible refine gate_dst (N := 37) rfl ?_); refine Kd.R_lit Kd.bool _ 4 rfl (N := 37) rfl (xs := ([true] : List Bool)) (inner := [.bool true]) (ok := fun _ => True) (okp := fun _ => True) qW ?hp (fun _ hk => hk) trivial (Below.refl _ _) (Nat.le_refl _) (by simp) ?_; (case hp => exact (Reps.one (show Kd.M Kd.bool _ _ _ true [.bool true] from rfl) (Reps.none _ _))); intro v556 w38 ho39 hb hg_ hnew_; clear hg_ hnew_; (first | rw [← Ny555.out] at ho39 | (simp only [Int.reduceToNat] at ho39; rw [← Ny555.out] at ho39)); replace HO_554001 := qa (Kd.R_below (qR HO_554001.out) hb); replace HO_554002 := qa (Kd.R_below (qR HO_554002.out) hb); have HO557 := qa (Kd.R_lower ho39 (below_size (qB))); replace BK553 := qa (blk_below (qK BK553.out) hb); replace HB := qa (below_step (qB) hb); clear hb ho39; obtain ⟨Ao40, co40, eo40⟩ := Kd.R_slice HO557.out; subst eo40) | (go_at_call 22; (with_reducible refine (impl_CnfFor.calls kj5 t545 _ _ t546 _ _ t549 _ _ y555 t558 t559 true _ ?side1 ?side2 ?side3 ?side4 ?side5 ?side6 A15.out).mono ?_); (case side1 => exact qC (Kd.R_reads' HO_554001.out).2.2); (case side2 => exact (Kd.R_reads' HO_554001.out).2.1); (case side3 => exact qC (Kd.R_reads' HO_554002.out).2.2); (case side4 => exact (Kd.R_reads' HO_554002.out).2.1); (case side5 => exact qC (Kd.R_reads' HO557.out).2.2); (case side6 => exact (Kd.R_reads' HO557.out).2.1); rintro e w41 ⟨v560, rfl, ho0, hb⟩; have HO561 := qa (Kd.N_lower (Kd.N_mono (ok' := fun k_ => some k_ ≠ (.slice Ao10 t546.length co10 : Value).ownBlock ∧ some k_ ≠ (.slice Ao11 t549.length co11 : Value).ownBlock ∧ some k_ ≠ (.slice Ao40 y555.length co40 : Value).ownBlock ∧ k_ ≠ gb553) ho0 (fun k_ hk_ => ⟨(Kd.fresh' (Kd.R_lt (qR HO_554001.out)) k_ hk_), (Kd.fresh' (Kd.R_lt (qR HO_554002.out)) k_ hk_), (Kd.fresh' (Kd.R_lt (qR HO557.out)) k_ hk_), (Kd.freshB (g := gb553) (o := .cells #[.int .i64 t545, .slice Ao10 t546.length co10, .slice Ao11 t549.length co11] 37 (0, 0)) (qK BK553.out) k_ hk_)⟩)) (below_size (qB))); replace HO_554001 := qa (Kd.R_below (qR HO_554001.out) hb); replace HO_554002 := qa (Kd.R_below (qR HO_554002.out) hb); replace HO557 := qa (Kd.R_below (qR HO557.out) hb); replace BK553 := qa (blk_below (qK BK553.out) hb); replace HB := qa (below_step (qB) hb); (try clear hb); (try clear hb2); (try clear hk); (try clear hi); (try clear ho0)) | ((with_reducible refine gate_dst (N := 13) rfl ?_); refine box_event rfl (N := 13) rfl (cs := #[.int .i64 0, .slice none 0 0]) (t := 47) qW ?_; intro gb563 hg w42 hbox hb; replace HO_554001 := qa (Kd.R_below (qR HO_554001.out) hb); replace HO_554002 := qa (Kd.R_below (qR HO_554002.out) hb); replace HO557 := qa (Kd.R_below (qR HO557.out) hb); replace HO561 := qa (Kd.N_below (Kd.N_elderB (qN HO561.out) gb563 (Nat.le_of_eq hg.symm)) hb); have BK563 := qa (hbox); have GW563 := qg w hg; replace HB := qa (below_step (qB) hb); have NB553_563 := qnl hg (qK BK553.out); have NB563_553 := qng hg (qK BK553.out); replace BK553 := qa (blk_below (qK BK553.out) hb); clear hb hbox hg; have hnb43 := NB563_553.out; have hnc43 := NB553_563.out; have hcz44 := blk_cell BK563.out; have hfz44 := blk_frozen BK563.out; obtain ⟨Ao45, co45, eo45⟩ := Kd.N_slice HO561.out; subst eo45) | (go_at_call 23; (with_reducible refine (impl_Solve.calls kj5 t558 _ _ t559 a3 t564 t565 t568 true _ ?side1 ?side2 A17.out).mono ?_); (case side1 => refine (Kd.N_reads' (e := 35) (base := w.heap.size) (ok := fun k_ => ((some k_ ≠ (.slice Ao10 t546.length co10 : Value).ownBlock ∧ (some k_ ≠ (.slice Ao11 t549.length co11 : Value).ownBlock ∧ (some k_ ≠ (.slice Ao40 y555.length co40 : Value).ownBlock ∧ k_ ≠ gb553))) ∧ k_ ≠ gb563)) (n := t559.length) (c := co45) ?_).2.2; exact (by (with_reducible repeat (first | apply Kd.N_alloc | apply Kd.N_drewN | apply Kd.N_drew)); exact (Kd.N_mono (Kd.N_far (p := ⟨gb563, 1, none⟩) (Kd.N_far (p := ⟨gb563, 0, none⟩) (Kd.N_mono HO561.out (fun k_ hk => (⟨hk, hk.2⟩ : _ ∧ k_ ≠ gb563))) (fun _ hk => hk.2) (.int .i64 t558)) (fun _ hk => hk.2) (.slice Ao45 t559.length co45)) (fun _ h_ => h_.1)))); (case side2 => exact (Kd.N_reads' HO561.out).2.1); rintro e w46 ⟨v566, rfl, ho0, hb⟩; replace HO_554001 := qa (Kd.R_below (by (with_reducible repeat (first | apply Kd.R_alloc | apply Kd.R_drewN | apply Kd.R_drew)); exact (Kd.R_mono (Kd.R_far (p := ⟨gb563, 1, none⟩) (Kd.R_far (p := ⟨gb563, 0, none⟩) (Kd.R_types HO_554001.out BK563.out (by decide)) (fun _ hk => hk.2) (.int .i64 t558)) (fun _ hk => hk.2) (.slice Ao45 t559.length co45)) (fun _ h_ => h_.1))) hb); replace HO_554002 := qa (Kd.R_below (by (with_reducible repeat (first | apply Kd.R_alloc | apply Kd.R_drewN | apply Kd.R_drew)); exact (Kd.R_mono (Kd.R_far (p := ⟨gb563, 1, none⟩) (Kd.R_far (p := ⟨gb563, 0, none⟩) (Kd.R_types HO_554002.out BK563.out (by decide)) (fun _ hk => hk.2) (.int .i64 t558)) (fun _ hk => hk.2) (.slice Ao45 t559.length co45)) (fun _ h_ => h_.1))) hb); replace HO561 := qa (Kd.N_elder' (by (with_reducible repeat (first | apply Kd.N_alloc | apply Kd.N_drewN | apply Kd.N_drew)); exact (Kd.N_mono (Kd.N_far (p := ⟨gb563, 1, none⟩) (Kd.N_far (p := ⟨gb563, 0, none⟩) (Kd.N_mono HO561.out (fun k_ hk => (⟨hk, hk.2⟩ : _ ∧ k_ ≠ gb563))) (fun _ hk => hk.2) (.int .i64 t558)) (fun _ hk => hk.2) (.slice Ao45 t559.length co45)) (fun _ h_ => h_.1))) (Kd.R_base ho0) hb); have HO567 := qa (Kd.R_lower (Kd.R_new' ho0 (Kd.R_lt (by (with_reducible repeat (first | apply Kd.R_alloc | apply Kd.R_drewN | apply Kd.R_drew)); exact (Kd.R_mono (Kd.R_far (p := ⟨gb563, 1, none⟩) (Kd.R_far (p := ⟨gb563, 0, none⟩) (Kd.R_types HO557.out BK563.out (by decide)) (fun _ hk => hk.2) (.int .i64 t558)) (fun _ hk => hk.2) (.slice Ao45 t559.length co45)) (fun _ h_ => h_.1))))) (below_size (qB))); replace HO557 := qa (Kd.R_elder' (by (with_reducible repeat (first | apply Kd.R_alloc | apply Kd.R_drewN | apply Kd.R_drew)); exact (Kd.R_mono (Kd.R_far (p := ⟨gb563, 1, none⟩) (Kd.R_far (p := ⟨gb563, 0, none⟩) (Kd.R_types HO557.out BK563.out (by decide)) (fun _ hk => hk.2) (.int .i64 t558)) (fun _ hk => hk.2) (.slice Ao45 t559.length co45)) (fun _ h_ => h_.1))) (Kd.R_base ho0) hb); replace BK553 := qa (blk_below (g := gb553) (o := .cells #[.int .i64 t545, .slice Ao10 t546.length co10, .slice Ao11 t549.length co11] 37 (0, 0)) (qF BK553.out) hb); replace BK563 := qa (blk_below (g := gb563) (o := .cells #[.int .i64 t558, .slice Ao45 t559.length co45] 47 (0, 0)) (qP BK563.out) hb); replace HB := qa (below_step (qB) hb); (try clear hb); (try clear hb2); (try clear hk); (try clear hi); (try clear ho0)))
       go_ret3
       exact ⟨_, qE, by first | exact Kd.R_nil _ _ _ _ _ | exact Kd.N_nil _ _ _ _ _ | exact Kd.V_nil _ _ _ _ _ | exact Kd.Q_nil _ _ _ _ _ | exact Kd.S_nil _ _ _ _ _, qB⟩
     ·replace c18 := Bool.eq_false_iff.mpr c18;subst c18;rw [if_neg (show ¬ (false = true) by decide)] at H;simp only [Option.some.injEq, Prod.mk.injEq] at H;obtain ⟨rfl, rfl, rfl⟩ := H;have hcz47 := blk_cell BK553.out;have hcz47_1 := blk_cell BK553.out 1;have hcz47_2 := blk_cell BK553.out 2;have hfz47 := blk_frozen BK553.out;have hfz47_1 := blk_frozen BK553.out 1;have hfz47_2 := blk_frozen BK553.out 2;go_wp2_with (first | ((with_reducible refine gate_dst (N := 37) rfl ?_); refine Kd.R_lit Kd.bool _ 4 rfl (N := 37) rfl (xs := ([true] : List Bool)) (inner := [.bool true]) (ok := fun _ => True) (okp := fun _ => True) qW ?hp (fun _ hk => hk) trivial (Below.refl _ _) (Nat.le_refl _) (by simp) ?_; (case hp => exact (Reps.one (show Kd.M Kd.bool _ _ _ true [.bool true] from rfl) (Reps.none _ _))); intro v556 w48 ho49 hb hg_ hnew_; clear hg_ hnew_; (first | rw [← Ny555.out] at ho49 | (simp only [Int.reduceToNat] at ho49; rw [← Ny555.out] at ho49)); replace HO_554001 := qa (Kd.R_below (qR HO_554001.out) hb); replace HO_554002 := qa (Kd.R_below (qR HO_554002.out) hb); have HO557 := qa (Kd.R_lower ho49 (below_size (qB))); replace BK553 := qa (blk_below (qK BK553.out) hb); replace HB := qa (below_step (qB) hb); clear hb ho49; obtain ⟨Ao50, co50, eo50⟩ := Kd.R_slice HO557.out; subst eo50) | (go_at_call 22; (with_reducible refine (impl_CnfFor.calls kj5 t545 _ _ t546 _ _ t549 _ _ y555 t558 t559 true _ ?side1 ?side2 ?side3 ?side4 ?side5 ?side6 A15.out).mono ?_); (case side1 => exact qC (Kd.R_reads' HO_554001.out).2.2); (case side2 => exact (Kd.R_reads' HO_554001.out).2.1); (case side3 => exact qC (Kd.R_reads' HO_554002.out).2.2); (case side4 => exact (Kd.R_reads' HO_554002.out).2.1); (case side5 => exact qC (Kd.R_reads' HO557.out).2.2); (case side6 => exact (Kd.R_reads' HO557.out).2.1); rintro e w51 ⟨v560, rfl, ho0, hb⟩; have HO561 := qa (Kd.N_lower (Kd.N_mono (ok' := fun k_ => some k_ ≠ (.slice Ao10 t546.length co10 : Value).ownBlock ∧ some k_ ≠ (.slice Ao11 t549.length co11 : Value).ownBlock ∧ some k_ ≠ (.slice Ao50 y555.length co50 : Value).ownBlock ∧ k_ ≠ gb553) ho0 (fun k_ hk_ => ⟨(Kd.fresh' (Kd.R_lt (qR HO_554001.out)) k_ hk_), (Kd.fresh' (Kd.R_lt (qR HO_554002.out)) k_ hk_), (Kd.fresh' (Kd.R_lt (qR HO557.out)) k_ hk_), (Kd.freshB (g := gb553) (o := .cells #[.int .i64 t545, .slice Ao10 t546.length co10, .slice Ao11 t549.length co11] 37 (0, 0)) (qK BK553.out) k_ hk_)⟩)) (below_size (qB))); replace HO_554001 := qa (Kd.R_below (qR HO_554001.out) hb); replace HO_554002 := qa (Kd.R_below (qR HO_554002.out) hb); replace HO557 := qa (Kd.R_below (qR HO557.out) hb); replace BK553 := qa (blk_below (qK BK553.out) hb); replace HB := qa (below_step (qB) hb); (try clear hb); (try clear hb2); (try clear hk); (try clear hi); (try clear ho0)) | ((with_reducible refine gate_dst (N := 13) rfl ?_); refine box_event rfl (N := 13) rfl (cs := #[.int .i64 0, .slice none 0 0]) (t := 47) qW ?_; intro gb563 hg w52 hbox hb; replace HO_554001 := qa (Kd.R_below (qR HO_554001.out) hb); replace HO_554002 := qa (Kd.R_below (qR HO_554002.out) hb); replace HO557 := qa (Kd.R_below (qR HO557.out) hb); replace HO561 := qa (Kd.N_below (Kd.N_elderB (qN HO561.out) gb563 (Nat.le_of_eq hg.symm)) hb); have BK563 := qa (hbox); have GW563 := qg w hg; replace HB := qa (below_step (qB) hb); have NB553_563 := qnl hg (qK BK553.out); have NB563_553 := qng hg (qK BK553.out); replace BK553 := qa (blk_below (qK BK553.out) hb); clear hb hbox hg; have hnb53 := NB563_553.out; have hnc53 := NB553_563.out; have hcz54 := blk_cell BK563.out; have hfz54 := blk_frozen BK563.out; obtain ⟨Ao55, co55, eo55⟩ := Kd.N_slice HO561.out; subst eo55) | (go_at_call 23; (with_reducible refine (impl_Solve.calls kj5 t558 _ _ t559 a3 t564 t565 t568 false _ ?side1 ?side2 A17.out).mono ?_); (case side1 => refine (Kd.N_reads' (e := 35) (base := w.heap.size) (ok := fun k_ => ((some k_ ≠ (.slice Ao10 t546.length co10 : Value).ownBlock ∧ (some k_ ≠ (.slice Ao11 t549.length co11 : Value).ownBlock ∧ (some k_ ≠ (.slice Ao50 y555.length co50 : Value).ownBlock ∧ k_ ≠ gb553))) ∧ k_ ≠ gb563)) (n := t559.length) (c := co55) ?_).2.2; exact (by (with_reducible repeat (first | apply Kd.N_alloc | apply Kd.N_drewN | apply Kd.N_drew)); exact (Kd.N_mono (Kd.N_far (p := ⟨gb563, 1, none⟩) (Kd.N_far (p := ⟨gb563, 0, none⟩) (Kd.N_mono HO561.out (fun k_ hk => (⟨hk, hk.2⟩ : _ ∧ k_ ≠ gb563))) (fun _ hk => hk.2) (.int .i64 t558)) (fun _ hk => hk.2) (.slice Ao55 t559.length co55)) (fun _ h_ => h_.1)))); (case side2 => exact (Kd.N_reads' HO561.out).2.1); rintro e w56 ⟨v566, rfl, ho0, hb⟩; replace HO_554001 := qa (Kd.R_below (by (with_reducible repeat (first | apply Kd.R_alloc | apply Kd.R_drewN | apply Kd.R_drew)); exact (Kd.R_mono (Kd.R_far (p := ⟨gb563, 1, none⟩) (Kd.R_far (p := ⟨gb563, 0, none⟩) (Kd.R_types HO_554001.out BK563.out (by decide)) (fun _ hk => hk.2) (.int .i64 t558)) (fun _ hk => hk.2) (.slice Ao55 t559.length co55)) (fun _ h_ => h_.1))) hb); replace HO_554002 := qa (Kd.R_below (by (with_reducible repeat (first | apply Kd.R_alloc | apply Kd.R_drewN | apply Kd.R_drew)); exact (Kd.R_mono (Kd.R_far (p := ⟨gb563, 1, none⟩) (Kd.R_far (p := ⟨gb563, 0, none⟩) (Kd.R_types HO_554002.out BK563.out (by decide)) (fun _ hk => hk.2) (.int .i64 t558)) (fun _ hk => hk.2) (.slice Ao55 t559.length co55)) (fun _ h_ => h_.1))) hb); replace HO561 := qa (Kd.N_elder' (by (with_reducible repeat (first | apply Kd.N_alloc | apply Kd.N_drewN | apply Kd.N_drew)); exact (Kd.N_mono (Kd.N_far (p := ⟨gb563, 1, none⟩) (Kd.N_far (p := ⟨gb563, 0, none⟩) (Kd.N_mono HO561.out (fun k_ hk => (⟨hk, hk.2⟩ : _ ∧ k_ ≠ gb563))) (fun _ hk => hk.2) (.int .i64 t558)) (fun _ hk => hk.2) (.slice Ao55 t559.length co55)) (fun _ h_ => h_.1))) (Kd.R_base ho0) hb); have HO567 := qa (Kd.R_lower (Kd.R_new' ho0 (Kd.R_lt (by (with_reducible repeat (first | apply Kd.R_alloc | apply Kd.R_drewN | apply Kd.R_drew)); exact (Kd.R_mono (Kd.R_far (p := ⟨gb563, 1, none⟩) (Kd.R_far (p := ⟨gb563, 0, none⟩) (Kd.R_types HO557.out BK563.out (by decide)) (fun _ hk => hk.2) (.int .i64 t558)) (fun _ hk => hk.2) (.slice Ao55 t559.length co55)) (fun _ h_ => h_.1))))) (below_size (qB))); replace HO557 := qa (Kd.R_elder' (by (with_reducible repeat (first | apply Kd.R_alloc | apply Kd.R_drewN | apply Kd.R_drew)); exact (Kd.R_mono (Kd.R_far (p := ⟨gb563, 1, none⟩) (Kd.R_far (p := ⟨gb563, 0, none⟩) (Kd.R_types HO557.out BK563.out (by decide)) (fun _ hk => hk.2) (.int .i64 t558)) (fun _ hk => hk.2) (.slice Ao55 t559.length co55)) (fun _ h_ => h_.1))) (Kd.R_base ho0) hb); replace BK553 := qa (blk_below (g := gb553) (o := .cells #[.int .i64 t545, .slice Ao10 t546.length co10, .slice Ao11 t549.length co11] 37 (0, 0)) (qF BK553.out) hb); replace BK563 := qa (blk_below (g := gb563) (o := .cells #[.int .i64 t558, .slice Ao55 t559.length co55] 47 (0, 0)) (qP BK563.out) hb); replace HB := qa (below_step (qB) hb); (try clear hb); (try clear hb2); (try clear hk); (try clear hi); (try clear ho0)))
      go_ret3
      exact ⟨_, qE, by first | exact Kd.R_nil _ _ _ _ _ | exact Kd.N_nil _ _ _ _ _ | exact Kd.V_nil _ _ _ _ _ | exact Kd.Q_nil _ _ _ _ _ | exact Kd.S_nil _ _ _ _ _, qB⟩
    ·replace c16 := Bool.eq_false_iff.mpr c16;subst c16;rw [if_neg (show ¬ (false = true) by decide)] at H;simp only [Option.some.injEq, Prod.mk.injEq] at H;obtain ⟨rfl, rfl, rfl⟩ := H;have hcz57 := blk_cell BK553.out;have hcz57_1 := blk_cell BK553.out 1;have hcz57_2 := blk_cell BK553.out 2;have hfz57 := blk_frozen BK553.out;have hfz57_1 := blk_frozen BK553.out 1;have hfz57_2 := blk_frozen BK553.out 2;go_wp2_with (first | ((with_reducible refine gate_dst (N := 37) rfl ?_); refine Kd.R_lit Kd.bool _ 4 rfl (N := 37) rfl (xs := ([true] : List Bool)) (inner := [.bool true]) (ok := fun _ => True) (okp := fun _ => True) qW ?hp (fun _ hk => hk) trivial (Below.refl _ _) (Nat.le_refl _) (by simp) ?_; (case hp => exact (Reps.one (show Kd.M Kd.bool _ _ _ true [.bool true] from rfl) (Reps.none _ _))); intro v556 w58 ho59 hb hg_ hnew_; clear hg_ hnew_; (first | rw [← Ny555.out] at ho59 | (simp only [Int.reduceToNat] at ho59; rw [← Ny555.out] at ho59)); replace HO_554001 := qa (Kd.R_below (qR HO_554001.out) hb); replace HO_554002 := qa (Kd.R_below (qR HO_554002.out) hb); have HO557 := qa (Kd.R_lower ho59 (below_size (qB))); replace BK553 := qa (blk_below (qK BK553.out) hb); replace HB := qa (below_step (qB) hb); clear hb ho59; obtain ⟨Ao60, co60, eo60⟩ := Kd.R_slice HO557.out; subst eo60) | (go_at_call 22; (with_reducible refine (impl_CnfFor.calls kj5 t545 _ _ t546 _ _ t549 _ _ y555 t558 t559 false _ ?side1 ?side2 ?side3 ?side4 ?side5 ?side6 A15.out).mono ?_); (case side1 => exact qC (Kd.R_reads' HO_554001.out).2.2); (case side2 => exact (Kd.R_reads' HO_554001.out).2.1); (case side3 => exact qC (Kd.R_reads' HO_554002.out).2.2); (case side4 => exact (Kd.R_reads' HO_554002.out).2.1); (case side5 => exact qC (Kd.R_reads' HO557.out).2.2); (case side6 => exact (Kd.R_reads' HO557.out).2.1); rintro e w61 ⟨v560, rfl, ho0, hb⟩; have HO561 := qa (Kd.N_lower (Kd.N_mono (ok' := fun k_ => some k_ ≠ (.slice Ao10 t546.length co10 : Value).ownBlock ∧ some k_ ≠ (.slice Ao11 t549.length co11 : Value).ownBlock ∧ some k_ ≠ (.slice Ao60 y555.length co60 : Value).ownBlock ∧ k_ ≠ gb553) ho0 (fun k_ hk_ => ⟨(Kd.fresh' (Kd.R_lt (qR HO_554001.out)) k_ hk_), (Kd.fresh' (Kd.R_lt (qR HO_554002.out)) k_ hk_), (Kd.fresh' (Kd.R_lt (qR HO557.out)) k_ hk_), (Kd.freshB (g := gb553) (o := .cells #[.int .i64 t545, .slice Ao10 t546.length co10, .slice Ao11 t549.length co11] 37 (0, 0)) (qK BK553.out) k_ hk_)⟩)) (below_size (qB))); replace HO_554001 := qa (Kd.R_below (qR HO_554001.out) hb); replace HO_554002 := qa (Kd.R_below (qR HO_554002.out) hb); replace HO557 := qa (Kd.R_below (qR HO557.out) hb); replace BK553 := qa (blk_below (qK BK553.out) hb); replace HB := qa (below_step (qB) hb); (try clear hb); (try clear hb2); (try clear hk); (try clear hi); (try clear ho0)) | ((with_reducible refine gate_dst (N := 13) rfl ?_); refine box_event rfl (N := 13) rfl (cs := #[.int .i64 0, .slice none 0 0]) (t := 47) qW ?_; intro gb563 hg w62 hbox hb; replace HO_554001 := qa (Kd.R_below (qR HO_554001.out) hb); replace HO_554002 := qa (Kd.R_below (qR HO_554002.out) hb); replace HO557 := qa (Kd.R_below (qR HO557.out) hb); replace HO561 := qa (Kd.N_below (Kd.N_elderB (qN HO561.out) gb563 (Nat.le_of_eq hg.symm)) hb); have BK563 := qa (hbox); have GW563 := qg w hg; replace HB := qa (below_step (qB) hb); have NB553_563 := qnl hg (qK BK553.out); have NB563_553 := qng hg (qK BK553.out); replace BK553 := qa (blk_below (qK BK553.out) hb); clear hb hbox hg; have hnb63 := NB563_553.out; have hnc63 := NB553_563.out; have hcz64 := blk_cell BK563.out; have hfz64 := blk_frozen BK563.out; obtain ⟨Ao65, co65, eo65⟩ := Kd.N_slice HO561.out; subst eo65))
     go_ret3
     exact ⟨_, qE, by first | exact Kd.R_nil _ _ _ _ _ | exact Kd.N_nil _ _ _ _ _ | exact Kd.V_nil _ _ _ _ _ | exact Kd.Q_nil _ _ _ _ _ | exact Kd.S_nil _ _ _ _ _, qB⟩
def laws_eqUint64S.l0 : Nat → List Int → List Int → Int → Option (Bool)
 | 0, _, _, _ => none
 | k + 1, x0, x1, x5 => if x5 < (x0.length : Int) then (if 0 ≤ x5 then (if x5 < (x1.length : Int) then (if (rd x0 x5) = (rd x1 x5) then (laws_eqUint64S.l0 k x0 x1 (wrap64 (x5 + 1))) else (some false)) else (none)) else (none)) else (some true)
def laws_eqUint64S.f (k : Nat) (l0 : List Int) (l1 : List Int) : Option (Bool) := if (l0.length : Int) = (l1.length : Int) then (laws_eqUint64S.l0 k l0 l1 0) else (some false)
theorem laws_eqUint64S.mono_l : ∀ k, (∀ y0 y1 y2, LeO (laws_eqUint64S.l0 k y0 y1 y2) (laws_eqUint64S.l0 (k + 1) y0 y1 y2))
 | 0 => fun _ _ _ r h => by simp [laws_eqUint64S.l0] at h
 | k + 1 => by
  have ih0 := laws_eqUint64S.mono_l k
  ·intros;unfold laws_eqUint64S.l0;exact qM
theorem laws_eqUint64S.mono : ∀ a0 a1 k, LeO (laws_eqUint64S.f k a0 a1) (laws_eqUint64S.f (k + 1) a0 a1) := by
 intro a0 a1 k;have ih0 := laws_eqUint64S.mono_l k;unfold laws_eqUint64S.f;exact qM
theorem laws_eqUint64S.calls (k : Nat) (A0 : Option Addr) (c0 : Nat) (l0 : List Int) (A1 : Option Addr) (c1 : Nat) (l1 : List Int) (r : Bool) (w : World) (hr0 : Kd.C (Kd.int .u64) w A0 l0.length l0) (hc0 : l0.length ≤ c0) (hr1 : Kd.C (Kd.int .u64) w A1 l1.length l1) (hc1 : l1.length ≤ c1) (h : laws_eqUint64S.f k l0 l1 = some r) :
  Calls Tryz.prog 8 #[.slice A0 l0.length c0, .slice A1 l1.length c1] w fun e w' => e = .returned (.bool r) ∧ Drawn0 w w' := by
 have HR0 := qa hr0;have HC0 := qa hc0;clear hr0 hc0;have HR1 := qa hr1;have HC1 := qa hc1;clear hr1 hc1;have H := h;unfold laws_eqUint64S.f at H;clear h;by_cases c3 : (l0.length : Int) = (l1.length : Int)
 ·rw [if_pos c3] at H;obtain ⟨c3b0, c3b1⟩ := qb1 c3;have c3b2 : (l0.length == l1.length) = true := by first | simpa using c3 | (simp at c3 ⊢; omega)
  clear c3;have H' := qa H;clear H;go_enter Tryz.func8, Tryz.ntmps8
  go_wp2
  repeat (go_quiet (fail); try go_wp2)
  go_loopg [5] k (fun kq v5 w' => ∃ (x5_1 : Int), v5 = .int .i64 x5_1 ∧ Aside0 (laws_eqUint64S.l0 kq l0 l1 x5_1 = some r) ∧ Aside0 (kq ≤ k) ∧ Drawn0 w w')
  case atStart => exact ⟨(0), qS, H', ⟨Nat.le_refl _⟩, qT⟩
  case round =>
   clear H';obtain ⟨x5_1, rfl, HA, HK1, ⟨m1, rfl⟩⟩ := hrel;cases gk with
   | zero => exact absurd HA.out (by simp [laws_eqUint64S.l0])
   | succ k1 =>
    have H := HA.out;clear HA;simp only [laws_eqUint64S.l0] at H;by_cases c4 : x5_1 < (l0.length : Int)
    ·rw [if_pos c4] at H;have c4b0 : decide (x5_1 < (l0.length : Int)) = true := decide_eq_true c4;clear c4;obtain ⟨c5, H⟩ := qI H;have c5b0 : decide (0 ≤ x5_1) = true := decide_eq_true c5;clear c5;obtain ⟨c6, H⟩ := qI H;have c6b0 : decide (x5_1 < (l1.length : Int)) = true := decide_eq_true c6;clear c6;by_cases c7 : (rd l0 x5_1) = (rd l1 x5_1)
     ·rw [if_pos c7] at H;obtain ⟨c7b0, c7b1⟩ := qb1 c7;clear c7;have H' := qa H;clear H;have p579 : 0 ≤ (x5_1 : Int) := qD;have q579 : x5_1 < (l0.length : Int) := qD;obtain ⟨ad579, e579, hx579_0⟩ := Kd.at_int HR0.out x5_1 p579 q579;cases e579;replace p579 := eq_true p579;replace q579 := eq_true q579;have p580 : 0 ≤ (x5_1 : Int) := qD;have q580 : x5_1 < (l1.length : Int) := qD;obtain ⟨ad580, e580, hx580_0⟩ := Kd.at_int HR1.out x5_1 p580 q580;cases e580;replace p580 := eq_true p580;replace q580 := eq_true q580;go_wp2
      repeat (go_quiet (fail); try go_wp2)
      go_roundg k1;case measure => have := HK1.out; omega
      case rel => exact ⟨(wrap64 (x5_1 + 1)), qS, H', ⟨by have := HK1.out; omega⟩, qT⟩
     ·rw [if_neg c7] at H;obtain ⟨c7b0, c7b1⟩ := qb0 c7;obtain rfl := Option.some.inj H;have p579 : 0 ≤ (x5_1 : Int) := qD;have q579 : x5_1 < (l0.length : Int) := qD;obtain ⟨ad579, e579, hx579_0⟩ := Kd.at_int HR0.out x5_1 p579 q579;cases e579;replace p579 := eq_true p579;replace q579 := eq_true q579;have p580 : 0 ≤ (x5_1 : Int) := qD;have q580 : x5_1 < (l1.length : Int) := qD;obtain ⟨ad580, e580, hx580_0⟩ := Kd.at_int HR1.out x5_1 p580 q580;cases e580;replace p580 := eq_true p580;replace q580 := eq_true q580;go_wp2
      repeat (go_quiet (fail); try go_wp2)
      go_ret
      exact ⟨qS, qT⟩
    ·rw [if_neg c4] at H;have c4b0 : decide (x5_1 < (l0.length : Int)) = false := decide_eq_false c4;clear c4;obtain rfl := Option.some.inj H;go_wp2
     repeat (go_quiet (fail); try go_wp2)
     go_ret
     exact ⟨qS, qT⟩
 ·rw [if_neg c3] at H;obtain ⟨c3b0, c3b1⟩ := qb0 c3;have c3b2 : (l0.length == l1.length) = false := by first | simpa using c3 | (simp at c3 ⊢; omega)
  obtain rfl := Option.some.inj H;go_enter Tryz.func8, Tryz.ntmps8
  go_wp2
  repeat (go_quiet (fail); try go_wp2)
  go_ret
  exact ⟨qS, qT⟩
def laws_eqNode.f (a0_0 : Int) (a0_1 : Int) (a1_0 : Int) (a1_1 : Int) : Option (Bool) := if a0_0 = a1_0 then (if a0_1 = a1_1 then (some true) else (some false)) else (some false)
theorem laws_eqNode.calls (a0_0 : Int) (a0_1 : Int) (a1_0 : Int) (a1_1 : Int) (r : Bool) (w : World) (h : laws_eqNode.f a0_0 a0_1 a1_0 a1_1 = some r) :
  Calls Tryz.prog 25 #[.agg #[.int .i64 a0_0, .int .u64 a0_1], .agg #[.int .i64 a1_0, .int .u64 a1_1]] w fun e w' => e = .returned (.bool r) ∧ Below w.heap.size w w' := by
 have hu53 := Tryz.underlying53;have HB := qa (Below.refl w.heap.size w);have H := h;unfold laws_eqNode.f at H;clear h;by_cases c3 : a0_0 = a1_0
 ·rw [if_pos c3] at H;obtain ⟨c3b0, c3b1⟩ := qb1 c3;clear c3;by_cases c4 : a0_1 = a1_1
  ·rw [if_pos c4] at H;obtain ⟨c4b0, c4b1⟩ := qb1 c4;clear c4;obtain rfl := Option.some.inj H;go_enter Tryz.func25, Tryz.ntmps25
   go_wp2_with (first | ((with_reducible refine gate_dst (N := 2) rfl ?_); refine box_event rfl (N := 2) rfl (cs := #[.int .i64 a0_0, .int .u64 a0_1]) (t := 53) qW ?_; intro gb581 hg w5 hbox hb; have BK581 := qa (hbox); have GW581 := qg w hg; replace HB := qa (below_step (qB) hb); clear hb hbox hg) | ((with_reducible refine gate_dst (N := 3) rfl ?_); refine box_event rfl (N := 3) rfl (cs := #[.int .i64 a1_0, .int .u64 a1_1]) (t := 53) qW ?_; intro gb582 hg w6 hbox hb; have BK582 := qa (hbox); have GW582 := qg w hg; replace HB := qa (below_step (qB) hb); have NB581_582 := qnl hg (qK BK581.out); have NB582_581 := qng hg (qK BK581.out); replace BK581 := qa (blk_below (qK BK581.out) hb); clear hb hbox hg; have hnb7 := NB581_582.out; have hnc7 := NB582_581.out; have hcz8 := blk_cell BK581.out; have hfz8 := blk_frozen BK581.out; have hcz9 := blk_cell BK582.out; have hfz9 := blk_frozen BK582.out))
   go_ret
   exact ⟨qE, qB⟩
  ·rw [if_neg c4] at H;obtain ⟨c4b0, c4b1⟩ := qb0 c4;obtain rfl := Option.some.inj H;go_enter Tryz.func25, Tryz.ntmps25
   go_wp2_with (first | ((with_reducible refine gate_dst (N := 2) rfl ?_); refine box_event rfl (N := 2) rfl (cs := #[.int .i64 a0_0, .int .u64 a0_1]) (t := 53) qW ?_; intro gb581 hg w10 hbox hb; have BK581 := qa (hbox); have GW581 := qg w hg; replace HB := qa (below_step (qB) hb); clear hb hbox hg) | ((with_reducible refine gate_dst (N := 3) rfl ?_); refine box_event rfl (N := 3) rfl (cs := #[.int .i64 a1_0, .int .u64 a1_1]) (t := 53) qW ?_; intro gb582 hg w11 hbox hb; have BK582 := qa (hbox); have GW582 := qg w hg; replace HB := qa (below_step (qB) hb); have NB581_582 := qnl hg (qK BK581.out); have NB582_581 := qng hg (qK BK581.out); replace BK581 := qa (blk_below (qK BK581.out) hb); clear hb hbox hg; have hnb12 := NB581_582.out; have hnc12 := NB582_581.out; have hcz13 := blk_cell BK581.out; have hfz13 := blk_frozen BK581.out; have hcz14 := blk_cell BK582.out; have hfz14 := blk_frozen BK582.out))
   go_ret
   exact ⟨qE, qB⟩
 ·rw [if_neg c3] at H;obtain ⟨c3b0, c3b1⟩ := qb0 c3;obtain rfl := Option.some.inj H;go_enter Tryz.func25, Tryz.ntmps25
  go_wp2_with (first | ((with_reducible refine gate_dst (N := 2) rfl ?_); refine box_event rfl (N := 2) rfl (cs := #[.int .i64 a0_0, .int .u64 a0_1]) (t := 53) qW ?_; intro gb581 hg w15 hbox hb; have BK581 := qa (hbox); have GW581 := qg w hg; replace HB := qa (below_step (qB) hb); clear hb hbox hg) | ((with_reducible refine gate_dst (N := 3) rfl ?_); refine box_event rfl (N := 3) rfl (cs := #[.int .i64 a1_0, .int .u64 a1_1]) (t := 53) qW ?_; intro gb582 hg w16 hbox hb; have BK582 := qa (hbox); have GW582 := qg w hg; replace HB := qa (below_step (qB) hb); have NB581_582 := qnl hg (qK BK581.out); have NB582_581 := qng hg (qK BK581.out); replace BK581 := qa (blk_below (qK BK581.out) hb); clear hb hbox hg; have hnb17 := NB581_582.out; have hnc17 := NB582_581.out; have hcz18 := blk_cell BK581.out; have hfz18 := blk_frozen BK581.out; have hcz19 := blk_cell BK582.out; have hfz19 := blk_frozen BK582.out))
  go_ret
  exact ⟨qE, qB⟩
abbrev bX74_0 : Array Bool := #[false, false, false, false, false, false, false, false, false, false]
abbrev bX74_1 : Array Bool := #[true, false, false, false, false, false, false, false, false, false]
abbrev bX74_2 : Array Bool := #[true, true, false, false, false, false, false, false, false, false]
abbrev bX74_3 : Array Bool := #[true, true, true, false, false, false, false, false, false, false]
abbrev bX74_4 : Array Bool := #[true, true, true, false, true, false, false, false, false, false]
abbrev bX74_5 : Array Bool := #[true, true, true, false, true, true, false, false, false, false]
abbrev bX74_6 : Array Bool := #[true, true, true, false, true, true, true, false, false, false]
abbrev bX74_7 : Array Bool := #[true, true, true, true, true, true, true, false, false, false]
abbrev bX74_8 : Array Bool := #[true, true, true, true, true, true, true, true, false, false]
abbrev bX74_9 : Array Bool := #[true, true, true, true, true, true, true, true, true, false]
abbrev bX74_10 : Array Bool := #[true, true, true, true, true, true, true, true, true, true]
def laws_eqNodeS.l0 : Nat → List (S53) → List (S53) → Int → Option (Bool)
 | 0, _, _, _ => none
 | k + 1, x0, x1, x5 => if x5 < (x0.length : Int) then (if 0 ≤ x5 then (if x5 < (x1.length : Int) then ((laws_eqNode.f ((rd_T53 x0 x5).f0) ((rd_T53 x0 x5).f1) ((rd_T53 x1 x5).f0) ((rd_T53 x1 x5).f1)).bind fun t585 => (if t585 = true then (laws_eqNodeS.l0 k x0 x1 (wrap64 (x5 + 1))) else (some false))) else (none)) else (none)) else (some true)
def laws_eqNodeS.f (k : Nat) (l0 : List (S53)) (l1 : List (S53)) : Option (Bool) := if (l0.length : Int) = (l1.length : Int) then (laws_eqNodeS.l0 k l0 l1 0) else (some false)
theorem laws_eqNodeS.mono_l : ∀ k, (∀ y0 y1 y2, LeO (laws_eqNodeS.l0 k y0 y1 y2) (laws_eqNodeS.l0 (k + 1) y0 y1 y2))
 | 0 => fun _ _ _ r h => by simp [laws_eqNodeS.l0] at h
 | k + 1 => by
  have ih0 := laws_eqNodeS.mono_l k
  ·intros;unfold laws_eqNodeS.l0;exact qM
theorem laws_eqNodeS.mono : ∀ a0 a1 k, LeO (laws_eqNodeS.f k a0 a1) (laws_eqNodeS.f (k + 1) a0 a1) := by
 intro a0 a1 k;have ih0 := laws_eqNodeS.mono_l k;unfold laws_eqNodeS.f;exact qM
def laws_eqNodeS.T6 : Bool × List (List Nat × List Nat) := (true, [([], []), ([], []), ([0, 1], [0, 1]), ([2], [2]), ([], []), ([], []), ([4, 5], [4, 5]), ([6], [6]), ([3, 7], [3, 7]), ([8], [8])])
def laws_eqNodeS.B6 : List Nat := [0, 0, 3, 7, 0, 0, 48, 112, 255, 511]
theorem laws_eqNodeS.tab6 : rtab .any (opsOf Tryz.f9 6) = laws_eqNodeS.T6 := by kernel_rfl
theorem laws_eqNodeS.bits6 : waitsOk laws_eqNodeS.T6.2 laws_eqNodeS.B6 = true := by kernel_rfl
theorem laws_eqNodeS.calls (k : Nat) (A0 : Option Addr) (c0 : Nat) (l0 : List (S53)) (A1 : Option Addr) (c1 : Nat) (l1 : List (S53)) (r : Bool) (w : World) (hr0 : Kd.C k53 w A0 l0.length l0) (hc0 : l0.length ≤ c0) (hr1 : Kd.C k53 w A1 l1.length l1) (hc1 : l1.length ≤ c1) (h : laws_eqNodeS.f k l0 l1 = some r) :
  Calls Tryz.prog 9 #[.slice A0 l0.length c0, .slice A1 l1.length c1] w fun e w' => e = .returned (.bool r) ∧ Below w.heap.size w w' := by
 have hu53 := Tryz.underlying53;have HR0 := qa hr0;have HC0 := qa hc0;clear hr0 hc0;have HR1 := qa hr1;have HC1 := qa hc1;clear hr1 hc1;have HB := qa (Below.refl w.heap.size w);have H := h;unfold laws_eqNodeS.f at H;clear h;by_cases c3 : (l0.length : Int) = (l1.length : Int)
 ·rw [if_pos c3] at H;obtain ⟨c3b0, c3b1⟩ := qb1 c3;have c3b2 : (l0.length == l1.length) = true := by first | simpa using c3 | (simp at c3 ⊢; omega)
  clear c3;have H' := qa H;clear H;go_enter Tryz.func9, Tryz.ntmps9
  go_wp2
  go_loopg [5] k (fun kq v5 w' => ∃ (x5_1 : Int), v5 = .int .i64 x5_1 ∧ Aside0 (laws_eqNodeS.l0 kq l0 l1 x5_1 = some r) ∧ Aside0 (kq ≤ k) ∧ Aside0 (Below w.heap.size w w'))
  case atStart => exact ⟨(0), qS, H', ⟨Nat.le_refl _⟩, ⟨qB⟩⟩
  case round =>
   clear H';obtain ⟨x5_1, rfl, HA, HK1, HB⟩ := hrel;cases gk with
   | zero => exact absurd HA.out (by simp [laws_eqNodeS.l0])
   | succ k1 =>
    have H := HA.out;clear HA;simp only [laws_eqNodeS.l0] at H;by_cases c4 : x5_1 < (l0.length : Int)
    ·rw [if_pos c4] at H;have c4b0 := decide_eq_true c4;clear c4;obtain ⟨c5, H⟩ := qI H;have c5b0 : decide (0 ≤ x5_1) = true := decide_eq_true c5;clear c5;obtain ⟨c6, H⟩ := qI H;have c6b0 : decide (x5_1 < (l1.length : Int)) = true := decide_eq_true c6;clear c6;replace H := Option.bind_eq_some_iff.mp H;obtain ⟨t585, A70, H⟩ := H;try dsimp only at H
     have A7 := qa A70;clear A70;by_cases c8 : t585 = true
     ·subst c8;rw [if_pos rfl] at H;have H' := qa H;clear H;try go_wp2
      have n0_ := qa (below_drew1 HB.out);clear HB;have HB := n0_;clear n0_;have p583 : 0 ≤ (x5_1 : Int) := qD;have q583 : x5_1 < (l0.length : Int) := qD;obtain ⟨ad583, e583, hx583_0, hx583_1⟩ := at_T53 HR0.out x5_1 p583 q583;have hw583_1 := hx583_1;have hw583_0 := hx583_0;cases e583;replace hx583_0 := qx HB hx583_0;replace hx583_1 := qx HB hx583_1;replace p583 := eq_true p583;replace q583 := eq_true q583;have p584 : 0 ≤ (x5_1 : Int) := qD;have q584 : x5_1 < (l1.length : Int) := qD;obtain ⟨ad584, e584, hx584_0, hx584_1⟩ := at_T53 HR1.out x5_1 p584 q584;have hw584_1 := hx584_1;have hw584_0 := hx584_0;cases e584;replace hx584_0 := qx HB hx584_0;replace hx584_1 := qx HB hx584_1;replace p584 := eq_true p584;replace q584 := eq_true q584;refine start_ (n := 10) (S := fun w' => w'.cell? (ad583.add ((x5_1).toNat * 2)) = some (.int .i64 ((rd_T53 l0 x5_1).f0)) ∧ w'.cell? ⟨(ad583.add ((x5_1).toNat * 2)).block, (ad583.add ((x5_1).toNat * 2)).off + 1, none⟩ = some (.int .u64 ((rd_T53 l0 x5_1).f1)) ∧ w'.cell? (ad584.add ((x5_1).toNat * 2)) = some (.int .i64 ((rd_T53 l1 x5_1).f0)) ∧ w'.cell? ⟨(ad584.add ((x5_1).toNat * 2)).block, (ad584.add ((x5_1).toNat * 2)).off + 1, none⟩ = some (.int .u64 ((rd_T53 l1 x5_1).f1))) (ds := []) bX74_0 (by kernel_rfl) rfl rfl ⟨((HB.out.cell (World.block_lt_of_cell? w _ hw583_0)).trans hw583_0), ((HB.out.cell (World.block_lt_of_cell? w _ hw583_1)).trans hw583_1), ((HB.out.cell (World.block_lt_of_cell? w _ hw584_0)).trans hw584_0), ((HB.out.cell (World.block_lt_of_cell? w _ hw584_1)).trans hw584_1)⟩ (fun hHeld => ?_); refine with_tabW laws_eqNodeS.tab6 laws_eqNodeS.bits6 (fun HT_ HW_ => ?_);generalize wr.drew = w9 at HB hx583_0 hx583_1 hx584_0 hx584_1 hHeld ⊢;refine pure_ (i := 0) (N := some 17) (v := ?_) (a' := ?_) bX74_1 rfl rfl (any_of HT_.out (by kernel_rfl)) (fun _ _ _ h => h) (Or.inl ⟨by rfl, ?_⟩) ?_ ?_;rotate_left
      ·intro w';go_simp
       with_reducible rfl
      rotate_left
      ·simp only [Act.put, List.setIfInBounds_toArray, List.set_cons_zero, List.set_cons_succ, i64_w, i32_w];rfl
      refine pure_ (i := 1) (N := some 18) (v := ?_) (a' := ?_) bX74_2 rfl rfl (any_of HT_.out (by kernel_rfl)) (fun _ _ _ h => h) (Or.inl ⟨by rfl, ?_⟩) ?_ ?_;rotate_left
      ·intro w';go_simp
       with_reducible rfl
      rotate_left
      ·simp only [Act.put, List.setIfInBounds_toArray, List.set_cons_zero, List.set_cons_succ, i64_w, i32_w];rfl
      refine pure_ (i := 2) (N := some 19) (v := ?_) (a' := ?_) bX74_3 rfl rfl (any_of HT_.out (by kernel_rfl)) (fun _ _ _ h => h) (Or.inl ⟨by rfl, ?_⟩) ?_ ?_;rotate_left
      ·intro w';go_simp
       with_reducible rfl
      rotate_left
      ·simp only [Act.put, List.setIfInBounds_toArray, List.set_cons_zero, List.set_cons_succ, i64_w, i32_w];rfl
      refine pure_ (i := 4) (N := some 21) (v := ?_) (a' := ?_) bX74_4 rfl rfl (any_of HT_.out (by kernel_rfl)) (fun _ _ _ h => h) (Or.inl ⟨by rfl, ?_⟩) ?_ ?_;rotate_left
      ·intro w';go_simp
       with_reducible rfl
      rotate_left
      ·simp only [Act.put, List.setIfInBounds_toArray, List.set_cons_zero, List.set_cons_succ, i64_w, i32_w];rfl
      refine pure_ (i := 5) (N := some 22) (v := ?_) (a' := ?_) bX74_5 rfl rfl (any_of HT_.out (by kernel_rfl)) (fun _ _ _ h => h) (Or.inl ⟨by rfl, ?_⟩) ?_ ?_;rotate_left
      ·intro w';go_simp
       with_reducible rfl
      rotate_left
      ·simp only [Act.put, List.setIfInBounds_toArray, List.set_cons_zero, List.set_cons_succ, i64_w, i32_w];rfl
      refine pure_ (i := 6) (N := some 23) (v := ?_) (a' := ?_) bX74_6 rfl rfl (any_of HT_.out (by kernel_rfl)) (fun _ _ _ h => h) (Or.inl ⟨by rfl, ?_⟩) ?_ ?_;rotate_left
      ·intro w';go_simp
       with_reducible rfl
      rotate_left
      ·simp only [Act.put, List.setIfInBounds_toArray, List.set_cons_zero, List.set_cons_succ, i64_w, i32_w];rfl
      refine take_ (i := 3) (N := some 20) (v := ?_) (a' := ?_) bX74_7 rfl rfl (take_ofW HT_.out HW_.out (by kernel_rfl)) (fun _ _ _ h => h) (Or.inl ⟨by rfl, ?_⟩) hHeld ?_ ?_;rotate_left
      ·rintro w' ⟨s0, s1, s2, s3⟩;go_simp
       with_reducible rfl
      rotate_left
      ·simp only [Act.put, List.setIfInBounds_toArray, List.set_cons_zero, List.set_cons_succ, i64_w, i32_w];rfl
      refine take_ (i := 7) (N := some 24) (v := ?_) (a' := ?_) bX74_8 rfl rfl (take_ofW HT_.out HW_.out (by kernel_rfl)) (fun _ _ _ h => h) (Or.inl ⟨by rfl, ?_⟩) hHeld ?_ ?_;rotate_left
      ·rintro w' ⟨s0, s1, s2, s3⟩;go_simp
       with_reducible rfl
      rotate_left
      ·simp only [Act.put, List.setIfInBounds_toArray, List.set_cons_zero, List.set_cons_succ, i64_w, i32_w];rfl
      refine one_ (i := 8) (N := some 25) bX74_9 rfl rfl (one_of HT_.out (by kernel_rfl)) (by decide) (fun K hK => ?_);refine goes_ Tryz.func25 (by kernel_rfl) rfl #[.agg #[.int .i64 ((rd_T53 l0 x5_1).f0), .int .u64 ((rd_T53 l0 x5_1).f1)], .agg #[.int .i64 ((rd_T53 l1 x5_1).f0), .int .u64 ((rd_T53 l1 x5_1).f1)]] (by rfl) rfl rfl qG ?_;with_reducible refine (laws_eqNode.calls ((rd_T53 l0 x5_1).f0) ((rd_T53 l0 x5_1).f1) ((rd_T53 l1 x5_1).f0) ((rd_T53 l1 x5_1).f1) true _ A7.out).mono ?_
      rintro e w10 ⟨rfl, hb⟩;refine ⟨_, rfl, ?_⟩;have n0_ := qa (below_step (qB) hb);clear HB;have HB := n0_;clear n0_;(try clear hb)
      (try clear hb2)
      (try clear hk)
      (try clear hi)
      refine hK.out _ _ ⟨((HB.out.cell (World.block_lt_of_cell? w _ hw583_0)).trans hw583_0), ((HB.out.cell (World.block_lt_of_cell? w _ hw583_1)).trans hw583_1), ((HB.out.cell (World.block_lt_of_cell? w _ hw584_0)).trans hw584_0), ((HB.out.cell (World.block_lt_of_cell? w _ hw584_1)).trans hw584_1)⟩ (fun hHeld => ?_);clear hK K;refine norm_ (a' := ?_) ?_ ?_;rotate_left
      ·show Act.put _ (some 25) _ = _;simp only [Act.put, List.setIfInBounds_toArray, List.set_cons_zero, List.set_cons_succ, i64_w, i32_w];rfl
      refine pure_ (i := 9) (N := some 26) (v := ?_) (a' := ?_) bX74_10 rfl rfl (any_of HT_.out (by kernel_rfl)) (fun _ _ _ h => h) (Or.inl ⟨by rfl, ?_⟩) ?_ ?_;rotate_left
      ·intro w';go_simp
       with_reducible rfl
      rotate_left
      ·simp only [Act.put, List.setIfInBounds_toArray, List.set_cons_zero, List.set_cons_succ, i64_w, i32_w];rfl
      refine done_ (done_of HT_.out (by kernel_rfl)) ?_;try go_wp2
      go_roundg k1;case measure => have := HK1.out; omega
      case rel => exact ⟨(wrap64 (x5_1 + 1)), qS, H', ⟨by have := HK1.out; omega⟩, ⟨qB⟩⟩
     ·replace c8 := Bool.eq_false_iff.mpr c8;subst c8;rw [if_neg (show ¬ (false = true) by decide)] at H;obtain rfl := Option.some.inj H;try go_wp2
      have n0_ := qa (below_drew1 HB.out);clear HB;have HB := n0_;clear n0_;have p583 : 0 ≤ (x5_1 : Int) := qD;have q583 : x5_1 < (l0.length : Int) := qD;obtain ⟨ad583, e583, hx583_0, hx583_1⟩ := at_T53 HR0.out x5_1 p583 q583;have hw583_1 := hx583_1;have hw583_0 := hx583_0;cases e583;replace hx583_0 := qx HB hx583_0;replace hx583_1 := qx HB hx583_1;replace p583 := eq_true p583;replace q583 := eq_true q583;have p584 : 0 ≤ (x5_1 : Int) := qD;have q584 : x5_1 < (l1.length : Int) := qD;obtain ⟨ad584, e584, hx584_0, hx584_1⟩ := at_T53 HR1.out x5_1 p584 q584;have hw584_1 := hx584_1;have hw584_0 := hx584_0;cases e584;replace hx584_0 := qx HB hx584_0;replace hx584_1 := qx HB hx584_1;replace p584 := eq_true p584;replace q584 := eq_true q584;refine start_ (n := 10) (S := fun w' => w'.cell? (ad583.add ((x5_1).toNat * 2)) = some (.int .i64 ((rd_T53 l0 x5_1).f0)) ∧ w'.cell? ⟨(ad583.add ((x5_1).toNat * 2)).block, (ad583.add ((x5_1).toNat * 2)).off + 1, none⟩ = some (.int .u64 ((rd_T53 l0 x5_1).f1)) ∧ w'.cell? (ad584.add ((x5_1).toNat * 2)) = some (.int .i64 ((rd_T53 l1 x5_1).f0)) ∧ w'.cell? ⟨(ad584.add ((x5_1).toNat * 2)).block, (ad584.add ((x5_1).toNat * 2)).off + 1, none⟩ = some (.int .u64 ((rd_T53 l1 x5_1).f1))) (ds := []) bX74_0 (by kernel_rfl) rfl rfl ⟨((HB.out.cell (World.block_lt_of_cell? w _ hw583_0)).trans hw583_0), ((HB.out.cell (World.block_lt_of_cell? w _ hw583_1)).trans hw583_1), ((HB.out.cell (World.block_lt_of_cell? w _ hw584_0)).trans hw584_0), ((HB.out.cell (World.block_lt_of_cell? w _ hw584_1)).trans hw584_1)⟩ (fun hHeld => ?_); refine with_tabW laws_eqNodeS.tab6 laws_eqNodeS.bits6 (fun HT_ HW_ => ?_);generalize wr.drew = w11 at HB hx583_0 hx583_1 hx584_0 hx584_1 hHeld ⊢;refine pure_ (i := 0) (N := some 17) (v := ?_) (a' := ?_) bX74_1 rfl rfl (any_of HT_.out (by kernel_rfl)) (fun _ _ _ h => h) (Or.inl ⟨by rfl, ?_⟩) ?_ ?_;rotate_left
      ·intro w';go_simp
       with_reducible rfl
      rotate_left
      ·simp only [Act.put, List.setIfInBounds_toArray, List.set_cons_zero, List.set_cons_succ, i64_w, i32_w];rfl
      refine pure_ (i := 1) (N := some 18) (v := ?_) (a' := ?_) bX74_2 rfl rfl (any_of HT_.out (by kernel_rfl)) (fun _ _ _ h => h) (Or.inl ⟨by rfl, ?_⟩) ?_ ?_;rotate_left
      ·intro w';go_simp
       with_reducible rfl
      rotate_left
      ·simp only [Act.put, List.setIfInBounds_toArray, List.set_cons_zero, List.set_cons_succ, i64_w, i32_w];rfl
      refine pure_ (i := 2) (N := some 19) (v := ?_) (a' := ?_) bX74_3 rfl rfl (any_of HT_.out (by kernel_rfl)) (fun _ _ _ h => h) (Or.inl ⟨by rfl, ?_⟩) ?_ ?_;rotate_left
      ·intro w';go_simp
       with_reducible rfl
      rotate_left
      ·simp only [Act.put, List.setIfInBounds_toArray, List.set_cons_zero, List.set_cons_succ, i64_w, i32_w];rfl
      refine pure_ (i := 4) (N := some 21) (v := ?_) (a' := ?_) bX74_4 rfl rfl (any_of HT_.out (by kernel_rfl)) (fun _ _ _ h => h) (Or.inl ⟨by rfl, ?_⟩) ?_ ?_;rotate_left
      ·intro w';go_simp
       with_reducible rfl
      rotate_left
      ·simp only [Act.put, List.setIfInBounds_toArray, List.set_cons_zero, List.set_cons_succ, i64_w, i32_w];rfl
      refine pure_ (i := 5) (N := some 22) (v := ?_) (a' := ?_) bX74_5 rfl rfl (any_of HT_.out (by kernel_rfl)) (fun _ _ _ h => h) (Or.inl ⟨by rfl, ?_⟩) ?_ ?_;rotate_left
      ·intro w';go_simp
       with_reducible rfl
      rotate_left
      ·simp only [Act.put, List.setIfInBounds_toArray, List.set_cons_zero, List.set_cons_succ, i64_w, i32_w];rfl
      refine pure_ (i := 6) (N := some 23) (v := ?_) (a' := ?_) bX74_6 rfl rfl (any_of HT_.out (by kernel_rfl)) (fun _ _ _ h => h) (Or.inl ⟨by rfl, ?_⟩) ?_ ?_;rotate_left
      ·intro w';go_simp
       with_reducible rfl
      rotate_left
      ·simp only [Act.put, List.setIfInBounds_toArray, List.set_cons_zero, List.set_cons_succ, i64_w, i32_w];rfl
      refine take_ (i := 3) (N := some 20) (v := ?_) (a' := ?_) bX74_7 rfl rfl (take_ofW HT_.out HW_.out (by kernel_rfl)) (fun _ _ _ h => h) (Or.inl ⟨by rfl, ?_⟩) hHeld ?_ ?_;rotate_left
      ·rintro w' ⟨s0, s1, s2, s3⟩;go_simp
       with_reducible rfl
      rotate_left
      ·simp only [Act.put, List.setIfInBounds_toArray, List.set_cons_zero, List.set_cons_succ, i64_w, i32_w];rfl
      refine take_ (i := 7) (N := some 24) (v := ?_) (a' := ?_) bX74_8 rfl rfl (take_ofW HT_.out HW_.out (by kernel_rfl)) (fun _ _ _ h => h) (Or.inl ⟨by rfl, ?_⟩) hHeld ?_ ?_;rotate_left
      ·rintro w' ⟨s0, s1, s2, s3⟩;go_simp
       with_reducible rfl
      rotate_left
      ·simp only [Act.put, List.setIfInBounds_toArray, List.set_cons_zero, List.set_cons_succ, i64_w, i32_w];rfl
      refine one_ (i := 8) (N := some 25) bX74_9 rfl rfl (one_of HT_.out (by kernel_rfl)) (by decide) (fun K hK => ?_);refine goes_ Tryz.func25 (by kernel_rfl) rfl #[.agg #[.int .i64 ((rd_T53 l0 x5_1).f0), .int .u64 ((rd_T53 l0 x5_1).f1)], .agg #[.int .i64 ((rd_T53 l1 x5_1).f0), .int .u64 ((rd_T53 l1 x5_1).f1)]] (by rfl) rfl rfl qG ?_;with_reducible refine (laws_eqNode.calls ((rd_T53 l0 x5_1).f0) ((rd_T53 l0 x5_1).f1) ((rd_T53 l1 x5_1).f0) ((rd_T53 l1 x5_1).f1) false _ A7.out).mono ?_
      rintro e w12 ⟨rfl, hb⟩;refine ⟨_, rfl, ?_⟩;have n0_ := qa (below_step (qB) hb);clear HB;have HB := n0_;clear n0_;(try clear hb)
      (try clear hb2)
      (try clear hk)
      (try clear hi)
      refine hK.out _ _ ⟨((HB.out.cell (World.block_lt_of_cell? w _ hw583_0)).trans hw583_0), ((HB.out.cell (World.block_lt_of_cell? w _ hw583_1)).trans hw583_1), ((HB.out.cell (World.block_lt_of_cell? w _ hw584_0)).trans hw584_0), ((HB.out.cell (World.block_lt_of_cell? w _ hw584_1)).trans hw584_1)⟩ (fun hHeld => ?_);clear hK K;refine norm_ (a' := ?_) ?_ ?_;rotate_left
      ·show Act.put _ (some 25) _ = _;simp only [Act.put, List.setIfInBounds_toArray, List.set_cons_zero, List.set_cons_succ, i64_w, i32_w];rfl
      refine pure_ (i := 9) (N := some 26) (v := ?_) (a' := ?_) bX74_10 rfl rfl (any_of HT_.out (by kernel_rfl)) (fun _ _ _ h => h) (Or.inl ⟨by rfl, ?_⟩) ?_ ?_;rotate_left
      ·intro w';go_simp
       with_reducible rfl
      rotate_left
      ·simp only [Act.put, List.setIfInBounds_toArray, List.set_cons_zero, List.set_cons_succ, i64_w, i32_w];rfl
      refine done_ (done_of HT_.out (by kernel_rfl)) ?_;try go_wp2
      go_ret
      exact ⟨qE, qB⟩
    ·rw [if_neg c4] at H;have c4b0 := decide_eq_false c4;clear c4;obtain rfl := Option.some.inj H;go_wp2
     go_ret
     exact ⟨qE, qB⟩
 ·rw [if_neg c3] at H;obtain ⟨c3b0, c3b1⟩ := qb0 c3;have c3b2 : (l0.length == l1.length) = false := by first | simpa using c3 | (simp at c3 ⊢; omega)
  obtain rfl := Option.some.inj H;go_enter Tryz.func9, Tryz.ntmps9
  go_wp2
  go_ret
  exact ⟨qE, qB⟩
end Go.Proofs.YtgdmdaalmoioeaaGreat.X
