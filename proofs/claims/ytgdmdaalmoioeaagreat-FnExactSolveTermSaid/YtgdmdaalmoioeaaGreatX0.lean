/- Go functions as Lean functions, each with the proof that its call comes to just its answer. Conditions: the arguments are of their kinds. -/
import Derived.Test.YtgdmdaalmoioeaaGreatProg
import Derived.Below
import Derived.Deep.Draws
import Derived.Deep.AppendLies
import Derived.Maps.AppendAt
import Derived.OwnWalk
import Derived.Laws.BytesArg
import Derived.Laws.MakeOwn
import Derived.Laws.OwnMore
import Derived.Deep.OwnRows
import Derived.Tactics
import Derived.Lib.ConvBytes
import Derived.Laws.Slices
import Derived.WalkKit
import Derived.KernelRfl
import Derived.RowKit3
import Derived.Deep.LoopGhost
import Derived.Deep.QuietTactic
import Derived.BigQuiet
import Derived.WideLaws
import Derived.Deep.DeepCutAuto
import Derived.Deep.CutBlock
import Derived.Deep.RegionHeld3
import Derived.Laws.Rows
import Derived.Lib.AppendStr
import Derived.ArgAppend
import Derived.Laws.IdiomCopy
import Derived.OrdersHeld
import Derived.Laws.BitsLemmas
import Derived.RowKit
import Derived.Test.YtgdmdaalmoioeaaGreatWWords
import Derived.Test.YtgdmdaalmoioeaaGreatWLast
import Derived.Test.YtgdmdaalmoioeaaGreatWTab
import Derived.Test.YtgdmdaalmoioeaaGreatWFour
import Derived.Test.YtgdmdaalmoioeaaGreatWQPut
import Derived.Test.YtgdmdaalmoioeaaGreatWApart
import Derived.Test.YtgdmdaalmoioeaaGreatWArr
import Derived.Test.YtgdmdaalmoioeaaGreatWZeros
import Derived.Test.YtgdmdaalmoioeaaGreatWFoot
import Derived.Test.YtgdmdaalmoioeaaGreatWKept
import Derived.Test.YtgdmdaalmoioeaaGreatWShare
import Derived.Test.YtgdmdaalmoioeaaGreatWN
import Derived.Test.YtgdmdaalmoioeaaGreatWFootNe
import Derived.Test.YtgdmdaalmoioeaaGreatWAt
import Derived.Test.YtgdmdaalmoioeaaGreatWEqStruct
import Derived.Test.YtgdmdaalmoioeaaGreatWRepsOne
import Derived.Test.YtgdmdaalmoioeaaGreatWInv
import Derived.Test.YtgdmdaalmoioeaaGreatWInvWords
import Derived.Test.YtgdmdaalmoioeaaGreatWGuard
import Derived.Test.YtgdmdaalmoioeaaGreatWNEv
import Derived.Test.YtgdmdaalmoioeaaGreatWMore
namespace Go.Proofs.YtgdmdaalmoioeaaGreat.X
open Go.RowKit Go.Proofs.YtgdmdaalmoioeaaGreatW.PrintWords Go.Proofs.YtgdmdaalmoioeaaGreatW.PrintLast Go.Proofs.YtgdmdaalmoioeaaGreatW.PrintMore
attribute [local go_sem] max2_int min2_int max_two min_two max_three min_three max_four min_four
set_option linter.unusedVariables false
set_option linter.unusedSimpArgs false
def errW : Option Int → Value
  | none => .nilIface
  | some c => .iface 0 (.int .i64 c)
theorem errW_none : errW none = .nilIface := rfl
theorem errW_some (c : Int) : errW (some c) = .iface 0 (.int .i64 c) := rfl
theorem info3 : (Tryz.prog.info? 3).map (fun i => (i.zero, i.size, i.bytes)) = some (some (.int .i64 0), 1, 8) := by kernel_rfl
theorem info4 : (Tryz.prog.info? 4).map (fun i => (i.zero, i.size, i.bytes)) = some (some (.bool false), 1, 1) := by kernel_rfl
theorem info35 : (Tryz.prog.info? 35).map (fun i => (i.zero, i.size, i.bytes)) = some (some (.slice none 0 0), 1, 24) := by kernel_rfl
theorem info51 : (Tryz.prog.info? 51).map (fun i => (i.zero, i.size, i.bytes)) = some (some (.int .u64 0), 1, 8) := by kernel_rfl
theorem info53 : (Tryz.prog.info? 53).map (fun i => (i.zero, i.size, i.bytes)) = some (some (.agg #[(.int .i64 0), (.int .u64 0)]), 2, 16) := by kernel_rfl
structure S55 where
  f0 : Int
  f1 : Int
def z55 : S55 := ⟨(0 : Int), (0 : Int)⟩
def k55 : Kd S55 := Kd.iso (Kd.pair (Kd.int .i64) (Kd.int .u64)) (fun x : S55 => (x.f0, x.f1))
theorem k55_open {w : World} {x : S55} {cs : List Value} (h : k55.K w x cs) : cs = [.int .i64 x.f0, .int .u64 x.f1] := by
  obtain ⟨_, _, rfl, rfl, rfl⟩ := h;exact rfl
def rd_T55 (xs : List S55) (i : Int) : S55 := xs.getD i.toNat z55
theorem at_T55 {w : World} {A : Option Addr} {n : Nat} {xs : List S55} (h : Kd.C k55 w A n xs) (i : Int) (h0 : 0 ≤ i) (h1 : i < n) : ∃ ad , A = some ad ∧ w.cell? (ad.add (i.toNat * 2)) = some (.int .i64 (rd_T55 xs i).f0) ∧ w.cell? ⟨(ad.add (i.toNat * 2)).block, (ad.add (i.toNat * 2)).off + 1, none⟩ = some (.int .u64 (rd_T55 xs i).f1) := by
  obtain ⟨ad, c, e, _, hK, hc0⟩ := Kd.C_get h z55 i h0 h1;have hc : ∀ j u, c[j]? = some u → w.cell? (ad.add (i.toNat * 2 + j)) = some u := hc0;obtain rfl := k55_open hK;exact ⟨ad, e, hc 0 _ rfl, by rw [← add_field _ _ 1 (by omega)]; exact hc 1 _ rfl⟩
structure S53 where
  f0 : Int
  f1 : Int
def z53 : S53 := ⟨(0 : Int), (0 : Int)⟩
def k53 : Kd S53 := Kd.iso (Kd.pair (Kd.int .i64) (Kd.int .u64)) (fun x : S53 => (x.f0, x.f1))
theorem k53_open {w : World} {x : S53} {cs : List Value} (h : k53.K w x cs) : cs = [.int .i64 x.f0, .int .u64 x.f1] := by
  obtain ⟨_, _, rfl, rfl, rfl⟩ := h;exact rfl
theorem k53_openM {w : World} {base : Nat} {ok : Nat → Prop} {x : S53} {cs : List Value} (h : k53.M w base ok x cs) : cs = [.int .i64 x.f0, .int .u64 x.f1] := by
  obtain ⟨_, _, rfl, rfl, rfl⟩ := h;exact rfl
theorem k53_mkM (w : World) (base : Nat) (ok : Nat → Prop) (x : S53)  : k53.M w base ok x [.int .i64 x.f0, .int .u64 x.f1] := ⟨[.int .i64 x.f0], [.int .u64 x.f1], rfl, rfl, rfl⟩
def rd_T53 (xs : List S53) (i : Int) : S53 := xs.getD i.toNat z53
theorem at_T53 {w : World} {A : Option Addr} {n : Nat} {xs : List S53} (h : Kd.C k53 w A n xs) (i : Int) (h0 : 0 ≤ i) (h1 : i < n) : ∃ ad , A = some ad ∧ w.cell? (ad.add (i.toNat * 2)) = some (.int .i64 (rd_T53 xs i).f0) ∧ w.cell? ⟨(ad.add (i.toNat * 2)).block, (ad.add (i.toNat * 2)).off + 1, none⟩ = some (.int .u64 (rd_T53 xs i).f1) := by
  obtain ⟨ad, c, e, _, hK, hc0⟩ := Kd.C_get h z53 i h0 h1;have hc : ∀ j u, c[j]? = some u → w.cell? (ad.add (i.toNat * 2 + j)) = some u := hc0;obtain rfl := k53_open hK;exact ⟨ad, e, hc 0 _ rfl, by rw [← add_field _ _ 1 (by omega)]; exact hc 1 _ rfl⟩
structure S75 where
  f0 : Int
  f1 : Int
  f2 : Int
def z75 : S75 := ⟨(0 : Int), (0 : Int), (0 : Int)⟩
def k75 : Kd S75 := Kd.iso (Kd.pair (Kd.int .i64) (Kd.pair (Kd.int .i64) (Kd.int .i64))) (fun x : S75 => (x.f0, x.f1, x.f2))
theorem k75_open {w : World} {x : S75} {cs : List Value} (h : k75.K w x cs) : cs = [.int .i64 x.f0, .int .i64 x.f1, .int .i64 x.f2] := by
  obtain ⟨_, _, rfl, rfl, ⟨_, _, rfl, rfl, rfl⟩⟩ := h;exact rfl
theorem k75_mkM (w : World) (base : Nat) (ok : Nat → Prop) (x : S75)  : k75.M w base ok x [.int .i64 x.f0, .int .i64 x.f1, .int .i64 x.f2] := ⟨[.int .i64 x.f0], [.int .i64 x.f1, .int .i64 x.f2], rfl, rfl, ⟨[.int .i64 x.f1], [.int .i64 x.f2], rfl, rfl, rfl⟩⟩
def rd_T75 (xs : List S75) (i : Int) : S75 := xs.getD i.toNat z75
theorem at_T75 {w : World} {A : Option Addr} {n : Nat} {xs : List S75} (h : Kd.C k75 w A n xs) (i : Int) (h0 : 0 ≤ i) (h1 : i < n) : ∃ ad , A = some ad ∧ w.cell? (ad.add (i.toNat * 3)) = some (.int .i64 (rd_T75 xs i).f0) ∧ w.cell? ⟨(ad.add (i.toNat * 3)).block, (ad.add (i.toNat * 3)).off + 1, none⟩ = some (.int .i64 (rd_T75 xs i).f1) ∧ w.cell? ⟨(ad.add (i.toNat * 3)).block, (ad.add (i.toNat * 3)).off + 2, none⟩ = some (.int .i64 (rd_T75 xs i).f2) := by
  obtain ⟨ad, c, e, _, hK, hc0⟩ := Kd.C_get h z75 i h0 h1;have hc : ∀ j u, c[j]? = some u → w.cell? (ad.add (i.toNat * 3 + j)) = some u := hc0;obtain rfl := k75_open hK;exact ⟨ad, e, hc 0 _ rfl, by rw [← add_field _ _ 1 (by omega)]; exact hc 1 _ rfl, by rw [← add_field _ _ 2 (by omega)]; exact hc 2 _ rfl⟩
def rd_L6 (xs : List (List Int)) (i : Int) : (List Int) := xs.getD i.toNat ([] : List Int)
theorem at_L6 {w : World} {A : Option Addr} {n : Nat} {xs : List (List Int)} (h : Kd.C (Kd.slice 3 (Kd.int .i64)) w A n xs) (i : Int) (h0 : 0 ≤ i) (h1 : i < n) : ∃ ad A0 c0, A = some ad ∧ w.cell? (ad.add i.toNat) = some (.slice A0 (rd_L6 xs i).length c0) ∧ (rd_L6 xs i).length ≤ c0 ∧ (Kd.int .i64).C w A0 (rd_L6 xs i).length (rd_L6 xs i) := by
  obtain ⟨ad, c, e, _, hK, hc0⟩ := Kd.C_get h ([] : List Int) i h0 h1;have hc : ∀ j u, c[j]? = some u → w.cell? (ad.add (i.toNat * 1 + j)) = some u := hc0;obtain ⟨A0, c0, rfl, l0, g0⟩ := hK;exact ⟨ad, A0, c0, e, by have hq := hc 0 _ rfl; rwa [Nat.mul_one, Nat.add_zero] at hq, l0, g0⟩
structure S37 where
  f0 : Int
  f1 : (List S75)
  f2 : (List Int)
structure S47 where
  f0 : Int
  f1 : (List (List Int))
theorem qB {p : Prop} (h : p := by repeat (first | (with_reducible first | exact HB.out | apply below_alloc | apply pw_below_drewN | apply below_drew1 | refine below_set ?_ (Aside0.out ‹_›)) | exact HB.out)) : p := h
theorem qH {p : Prop} (h : p := by repeat (first | (with_reducible first | exact HK.out | apply Kept.alloc | apply Kept.drewN | apply Kept.drew) | exact HK.out)) : p := h
theorem qD {p : Prop} [Decidable p] (h : decide p = true := by first | (with_reducible assumption) | assumption) : p := of_decide_eq_true h
theorem qK {q p : Prop} (a : q) (h : q → p := by intro h_; (with_reducible repeat (first | refine blk_drewN ?_ _ | refine blk_drew ?_ | refine blk_alloc ?_ _)); exact h_) : p := h a
theorem qF {q p : Prop} (a : q) (h : q → p := by intro h_; repeat (first | (with_reducible first | refine blk_drewN ?_ _ | refine blk_drew ?_ | refine blk_alloc ?_ _) | refine blk_far ?_ (Aside0.out ‹_›) _ | exact h_)) : p := h a
theorem qR {q p : Prop} (a : q) (h : q → p := by intro h_; (with_reducible repeat (first | apply Kd.R_alloc | apply Kd.R_drewN | apply Kd.R_drew)); exact h_) : p := h a
theorem qE {p : Prop} (h : p := by first | rfl | (simp [errW_none, errW_some] <;> rfl) | (simp [*, errW_none, errW_some] <;> rfl)) : p := h
theorem qS {p : Prop} (h : p := by first | rfl | (simp; done) | (simp [*]; done)) : p := h
theorem qG {p : Prop} (h : p := by (try simp only [List.map_toArray, List.map_cons, List.map_nil]); first | done | rfl | (simp only [List.length_drop, List.length_take]; rfl) | (rw [‹(List.take _ _).length = _›])) : p := h
theorem qC {q p : Prop} (a : q) (h : q → p := by intro h_; repeat (first | exact h_ | (with_reducible refine Kd.C_alloc ?_ _) | (with_reducible refine Kd.C_drewN ?_ _) | (with_reducible refine Kd.C_drew ?_))) : p := h a
section
open Kd
theorem N_new {α : Type} (d : Kd α) (w : World) (e base : Nat) (xs : List α) (inner : List Value) (ok okp : Nat → Prop) (hrep : Reps (Kd.FK d w okp) d.sz xs inner) (hok : ∀ k, okp k → ok k) (hfresh : ok w.heap.size) (hbase : base ≤ w.heap.size) (hm : xs.length ≤ 9223372036854775807) :
    Kd.N d e (w.alloc (.cells inner.toArray e)) base ok (.slice (some ⟨w.heap.size, 0, none⟩) xs.length xs.length) xs := by
  have hR := reps_raw hrep (fun y c hk => ⟨d.K_len (FK_now hk), d.K_one (FK_now hk)⟩);refine N_made (rows := chunks d.sz xs.length inner) (W := w) ⟨fun k hk => ?_, inner, ?_, hR⟩ (World.grownBy_alloc w _ none) ⟨w.heap.size, by simp [Value.ownBlock], Nat.le_refl _⟩ (chunks_length _ _ _) (fun j y c hy hc => by rw [chunks_get hc]; exact hrep.2 j y hy) hok hfresh
  · simpa [Value.ownBlock] using hk.symm
  · have h2 := World.ownsRow_lit (base := base) (e := e) (size := d.sz) w inner.toArray xs.length hbase (by simpa [maxLen] using hm) (by simpa using hrep.1);rw [chunks_length];simpa [raw] using h2
theorem reps_ints (w : World) : ∀ ys : List Int, Reps (Kd.FK (Kd.int .i64) w (fun _ => False)) 1 ys (ys.map (.int .i64 ·))
  | [] => Reps.none _ _
  | y :: ys => Reps.one (fun _ _ => rfl) (reps_ints w ys)
def allocInts (w : World) : List (List Int) → World
  | [] => w
  | y :: yss => allocInts (w.alloc (.cells (y.map (.int .i64 ·)).toArray 3)) yss
def slotsAt (n : Nat) : List (List Int) → List Value
  | [] => []
  | y :: yss => .slice (some ⟨n, 0, none⟩) y.length y.length :: slotsAt (n + 1) yss
def lastAt (n : Nat) : List (List Int) → Nat
  | [] => n
  | _ :: yss => lastAt (n + 1) yss
theorem allocInts_ok : ∀ (yss : List (List Int)) (w : World), (∀ y ∈ yss, y.length ≤ 9) →
    Reps (Kd.FK (Kd.slice 3 (Kd.int .i64)) (allocInts w yss) (fun k => w.heap.size ≤ k)) 1 yss (slotsAt w.heap.size yss) ∧ (allocInts w yss).heap.size = lastAt w.heap.size yss ∧ Below w.heap.size w (allocInts w yss)
  | [], w, _ => ⟨Reps.none _ _, rfl, Below.refl _ _⟩
  | y :: yss, w, hy => by
    have hs : (w.alloc (.cells (y.map (.int .i64 ·)).toArray 3)).heap.size = w.heap.size + 1 := (by simp);obtain ⟨h1, h2, h3⟩ := allocInts_ok yss (w.alloc (.cells (y.map (.int .i64 ·)).toArray 3)) (fun z hz => hy z (by simp [hz]));have hn := N_new (Kd.int .i64) w 3 w.heap.size y (y.map (.int .i64 ·)) (fun k => w.heap.size ≤ k) (fun _ => False) (reps_ints w y) (fun _ h => h.elim) (Nat.le_refl _) (Nat.le_refl _) (by have := hy y (by simp); omega);rw [hs] at h1 h2;refine ⟨Reps.one (FK_slice_mk (Nat.le_refl _) (F_below (N_F hn) h3)) (h1.imp_ fun p c hp => FK_mono hp fun k hk => by have : w.heap.size + 1 ≤ k := hk; show w.heap.size ≤ k; omega), h2, below_step (below_alloc (Below.refl _ _) _) h3⟩
theorem N_newrows {w0 w : World} {n : Nat} (HB : Below w0.heap.size w0 w) (yss : List (List Int)) (hn : w.heap.size = n) (hy : ∀ y ∈ yss, y.length ≤ 9) (hl : yss.length ≤ 99) :
    Kd.N (Kd.slice 3 (Kd.int .i64)) 35 ((allocInts w yss).alloc (.cells (slotsAt n yss).toArray 35)) w0.heap.size (fun k => w0.heap.size ≤ k) (.slice (some ⟨lastAt n yss, 0, none⟩) yss.length yss.length) yss ∧ Below w0.heap.size w0 ((allocInts w yss).alloc (.cells (slotsAt n yss).toArray 35)) := by
  subst hn;obtain ⟨h1, h2, h3⟩ := allocInts_ok yss w hy;have h4 := below_step HB h3;refine ⟨?_, below_alloc h4 _⟩;rw [← h2];exact N_new _ _ _ _ _ _ _ _ h1 (fun k (hk : w.heap.size ≤ k) => Nat.le_trans HB.size hk) h4.size h4.size (by omega)
theorem N_newrows' {w0 w W : World} {n : Nat} {v : Value} {yss : List (List Int)} (HB : Below w0.heap.size w0 w) (hn : w.heap.size = n) (hW : W = (allocInts w yss).alloc (.cells (slotsAt n yss).toArray 35)) (hv : v = .slice (some ⟨lastAt n yss, 0, none⟩) yss.length yss.length) (hy : ∀ y ∈ yss, y.length ≤ 9) (hl : yss.length ≤ 99) :
    Kd.N (Kd.slice 3 (Kd.int .i64)) 35 W w0.heap.size (fun k => w0.heap.size ≤ k) v yss ∧ Below w0.heap.size w0 W := by
  subst hW;subst hv;exact N_newrows HB yss hn hy hl
end
theorem qM {p : Prop} (h : p := by repeat' first | (with_reducible first | apply ih0 | apply ih1 | apply ih2 | apply ih3 | apply ih4 | apply ih5 | apply m0 | apply m1 | apply m2 | apply m3 | apply m4 | apply m5 | apply m6 | apply m7 | apply m8 | apply m9 | apply m10 | apply m11 | apply m12 | exact LeO.refl _ | exact LeO.none _ | refine LeO.ite ?_ ?_ | refine LeO.bind ?_ (fun _ => ?_)) | apply ih0 | apply ih1 | apply ih2 | apply ih3 | apply ih4 | apply ih5 | apply m0 | apply m1 | apply m2 | apply m3 | apply m4 | apply m5 | apply m6 | apply m7 | apply m8 | apply m9 | apply m10 | apply m11 | apply m12 | exact LeO.none _ | refine LeO.ite ?_ ?_ | refine LeO.bind ?_ (fun _ => ?_)) : p := h
theorem qT {p : Prop} (h : p := by repeat (first | exact Drawn0.refl _ | apply Drawn0.step)) : p := h
theorem qI {c : Prop} [Decidable c] {α : Type} {a b : Option α} {r : α} (h : (if c then a else b) = some r) (hb : ¬ b = some r := by simp) : c ∧ a = some r := by
  split at h
  · exact ⟨‹_›, h⟩
  · exact absurd h hb
theorem qa {p : Prop} (h : p) : Aside0 p := ⟨h⟩
theorem qx {w W : World} {a : Addr} {v : Value} (HB : Aside0 (Below w.heap.size w W)) (h : w.cell? a = some v) : W.cell? a = some v := (HB.out.cell (World.block_lt_of_cell? w _ h)).trans h
theorem qb1 {α : Type} [BEq α] [LawfulBEq α] {a b : α} (h : a = b) : (a == b) = true ∧ (a != b) = false := ⟨beq_iff_eq.mpr h, bne_eq_false_iff_eq.mpr h⟩
theorem qb0 {α : Type} [BEq α] [LawfulBEq α] {a b : α} (h : ¬ a = b) : (a == b) = false ∧ (a != b) = true := ⟨beq_eq_false_iff_ne.mpr h, bne_iff_ne.mpr h⟩
theorem qg (w : World) {W : World} {g : Nat} (hg : g = W.heap.size) (h : Below w.heap.size w W := by exact qB) : Aside0 (w.heap.size ≤ g) := ⟨by rw [hg]; exact below_size h⟩
theorem qnl {W : World} {g g' : Nat} {o : Obj} (hg : g' = W.heap.size) (h : W.heap[g]? = some o) : Aside0 (g ≠ g') := ⟨by rw [hg]; exact Nat.ne_of_lt (blk_lt h)⟩
theorem qng {W : World} {g g' : Nat} {o : Obj} (hg : g' = W.heap.size) (h : W.heap[g]? = some o) : Aside0 (g' ≠ g) := ⟨by rw [hg]; exact Nat.ne_of_gt (blk_lt h)⟩
theorem qV {p : Prop} (h : p := by repeat (first | (with_reducible first | exact HK.out | apply KeepBut.set_ | apply keep_drewN | apply keep_drew | apply keep_alloc) | exact HK.out)) : p := h
theorem qP {q p : Prop} (a : q) (h : q → p := by intro h_; (repeat' (first | (with_reducible first | exact h_ | refine blk_drewN ?_ _ | refine blk_drew ?_ | refine blk_alloc ?_ _) | refine blk_far ?_ (Aside0.out ‹_›) _ | apply blk_put)); all_goals rfl) : p := h a
theorem qW {p : Prop} (h : p := by first | (go_simp; done) | (go_simp; rfl)) : p := h
theorem qN {q p : Prop} (a : q) (h : q → p := by intro h_; (with_reducible repeat (first | apply Kd.N_alloc | apply Kd.N_drewN | apply Kd.N_drew)); exact h_) : p := h a
end Go.Proofs.YtgdmdaalmoioeaaGreat.X
