/- Go functions as Lean functions, each with the proof that its call comes to just its answer. Conditions: the arguments are of their kinds. -/
import Derived.Test.YtgdmdaalmoioeaaGreatX0
import Derived.Test.YtgdmdaalmoioeaaGreatX57
import Derived.Laws.EntriesVeiled
import Derived.Maps.GroupsBeside
namespace Go.Proofs.YtgdmdaalmoioeaaGreat.X
open Go.RowKit Go.Proofs.YtgdmdaalmoioeaaGreatW.PrintWords Go.Proofs.YtgdmdaalmoioeaaGreatW.PrintLast Go.Proofs.YtgdmdaalmoioeaaGreatW.PrintMore
attribute [local go_sem] max2_int min2_int max_two min_two max_three min_three max_four min_four
set_option linter.unusedVariables false
set_option linter.unusedSimpArgs false
set_option maxHeartbeats 8000000
set_option maxRecDepth 100000
def grp (ps : List (Int × Int)) (a : Int) : List Int := (ps.filter fun p => p.1 == a).map (·.2)
theorem grp_snoc (ps : List (Int × Int)) (a k b : Int) : grp (ps ++ [(a, k)]) b = if b = a then grp ps b ++ [k] else grp ps b := by
 unfold grp;rw [List.filter_append, List.map_append];by_cases h : b = a
 ·subst h;simp
 ·have h2 : (a == b) = false := beq_eq_false_iff_ne.mpr (fun e => h e.symm);rw [if_neg h];simp [h2]
def rowD (zs : List Int) : DataW Unit := if zs = [] then .nil else .slice (Go.ChangeShapes.lits .i64 zs) []
def FG (gm : Nat) (ps : List (Int × Int)) (vo : Value) (W : World) : Prop :=
 ∃ D : DataW Unit, W.ownsGroups Tryz.prog 3 (gm + 1) 3 .i64 gm ps.length D ∧ (∀ a : Int, (Lit.int .i64 a).wf = true → D.atKey (.int .i64 a) .nil = rowD (grp ps a)) ∧ W.Shuns gm (fun k => some k = vo.ownBlock)
theorem own_moves {w w' : World} {base : Nat} {e : TypeId} {q : IntKind} {v : Value} {zs : List Int} (h : w.ownsInts base e q v zs) (hm : ∀ k, v.ownBlock = some k → w'.heap[k]? = w.heap[k]?) : w'.ownsInts base e q v zs := ⟨own_move h.1 hm, h.2⟩
theorem groups_move {P : Program} {k : TypeId} {w w' : World} {base : Nat} {e : TypeId} {q : IntKind} {b n : Nat} {D : DataW Unit} (h : w.ownsGroups P k base e q b n D) (hb' : w'.heap[b]? = w.heap[b]?)
  (hrow : ∀ es clock, w.heap[b]? = some (.map es clock) → ∀ x ∈ es.toList, ∀ g, x.val.ownBlock = some g → w'.heap[g]? = w.heap[g]?) : w'.ownsGroups P k base e q b n D := by
 obtain ⟨es, clock, hb, F, hs, rfl, hbb, hlen, hap⟩ := h;have hst : ∀ x ∈ es.toList, ∀ z, rowElem (H := Unit) w base e q x.val = some z → rowElem w' base e q x.val = some z := fun x hx z hz => by
  obtain ⟨zs, ho, rfl⟩ := rowElem_inv hz;exact rowElem_mk (own_moves ho (hrow es clock hb x hx))
 obtain ⟨F1, hmap, _⟩ := F.stay hst;refine ⟨es, clock, hb'.trans hb, F1, hs, by rw [hmap], hbb, fun x hx zs ho => ?_, hap⟩;obtain ⟨y, hy⟩ := F.reads x hx;obtain ⟨z, hz, _⟩ := Go.WideElems.rd_val hy;obtain ⟨zs0, ho0, _⟩ := rowElem_inv hz;rw [ho.unique (own_moves ho0 (hrow es clock hb x hx))];exact hlen x hx zs0 ho0
theorem groups_lt {P : Program} {k : TypeId} {w : World} {base : Nat} {e : TypeId} {q : IntKind} {b n : Nat} {D : DataW Unit} (h : w.ownsGroups P k base e q b n D) : ∀ es clock, w.heap[b]? = some (.map es clock) → ∀ x ∈ es.toList, ∀ g, x.val.ownBlock = some g → base ≤ g ∧ g < w.heap.size := fun es clock hb x hx g hg => by
 obtain ⟨es', clock', hb', F, _⟩ := h;obtain ⟨rfl, rfl⟩ : es' = es ∧ clock' = clock := by rw [hb'] at hb; simpa using hb
 obtain ⟨y, hy⟩ := F.reads x hx;obtain ⟨z, hz, _⟩ := Go.WideElems.rd_val hy;obtain ⟨zs, hoi, _⟩ := rowElem_inv hz;exact hoi.1.lt g hg
theorem FG.block {gm : Nat} {ps : List (Int × Int)} {vo : Value} {W : World} (h : FG gm ps vo W) : ∃ es clock, W.heap[gm]? = some (.map es clock) := by
 obtain ⟨D, ⟨es, clock, hb, _⟩, _⟩ := h;exact ⟨es, clock, hb⟩
theorem FG.turn {gm gvr go base : Nat} {ps : List (Int × Int)} {vals opn : List Int} {gv : Nat} {vo vo' : Value} {W W' : World} (h : FG gm ps vo W) (hfs : FS base gv go gvr vals opn vo W) (hk : Kept W W' (FT gvr go vo)) (h1 : gvr ≤ gm) (h2 : go ≤ gm)
  (hat : vo'.ownBlock = vo.ownBlock ∨ ∃ b, vo'.ownBlock = some b ∧ W.heap.size ≤ b) : FG gm ps vo' W' := by
 obtain ⟨es0, clock0, hmb⟩ := h.block;have hgm : ¬ FT gvr go vo gm := by
  rintro (e | e | e)
  ·rw [e, hfs.hr] at hmb; cases hmb
  ·rw [e, hfs.ho] at hmb; cases hmb
  ·obtain ⟨cs, hc⟩ := Kd.Q_typed hfs.hq gm e.symm;rw [hc] at hmb; cases hmb
 obtain ⟨D, ho, hat0, hs⟩ := h;have hsame := hk.2 gm (blk_lt hmb) hgm;have hlt := groups_lt ho;refine ⟨D, groups_move ho hsame (fun es clock hb x hx g hg => hk.2 g (hlt es clock hb x hx g hg).2 ?_), hat0, fun es clock hb x hx g hg => ?_⟩
 ·have := (hlt es clock hb x hx g hg).1;rintro (e | e | e)
  ·omega
  ·omega
  ·exact hs es clock hb x hx g hg e
 ·rw [hsame] at hb;have h3 := hs es clock hb x hx g hg;have h4 := (hlt es clock hb x hx g hg).2;rcases hat with e | ⟨b, e, hle⟩
  ·rw [e]; exact h3
  ·rw [e]; intro e2; injection e2 with e2; omega
def cz (vals : List Int) : Nat := vals.count 0
def litOk (names n : Int) : Prop := n ≠ 0 ∧ -names ≤ n ∧ n ≤ names
instance (names n : Int) : Decidable (litOk names n) := by unfold litOk; infer_instance
structure SI (names : Int) (s : List Int × List Int) : Prop where
 h0 : 0 ≤ names
 h1 : names ≤ 1000000
 hl : (s.1.length : Int) = names + 1
 hz : s.2.length + cz s.1 ≤ s.1.length
 ho : ∀ n ∈ s.2, litOk names n
theorem foN_ok {names n : Int} (h : litOk names n) (h1 : names ≤ 1000000) : 1 ≤ foN n ∧ foN n ≤ names := by
 obtain ⟨h2, h3, h4⟩ := h;unfold foN mx;have e : wrap64 (-n) = -n := by unfold wrap64; omega
 rw [e];split <;> omega
theorem foS_ne {n : Int} (h : n ≠ 0) : foS n ≠ 0 := by
 unfold foS;split
 ·decide
 ·rw [if_pos (by omega)]; decide
theorem SI.ok {names : Int} {s : List Int × List Int} (h : SI names s) {n : Int} (hn : litOk names n) : 0 ≤ foN n ∧ foN n < (s.1.length : Int) := by
 have := foN_ok hn h.h1;have := h.hl;omega
theorem SI.room {names : Int} {s : List Int × List Int} (h : SI names s) : s.2.length < 17592186044416 := by
 have := h.hz;have := h.hl;have := h.h1;omega
theorem cz_set (l : List Int) (i : Nat) (a : Int) (hi : i < l.length) (h0 : l[i] = 0) (ha : a ≠ 0) : cz (l.set i a) + 1 = cz l := by
 unfold cz;have hp : 0 < l.count 0 := List.count_pos_iff.mpr (by rw [← h0]; exact List.getElem_mem hi);rw [List.count_set hi];simp [h0, ha];omega
theorem SI.set {names : Int} {s : List Int × List Int} (h : SI names s) {n : Int} (hn : litOk names n) : SI names (setV s.1 n, setO s.1 s.2 n) := by
 have hk := h.ok hn;obtain ⟨t, ht⟩ : ∃ t, foN n = t := ⟨_, rfl⟩;rw [ht] at hk;obtain ⟨j, rfl⟩ := Int.eq_ofNat_of_zero_le hk.1;have hj : j < s.1.length := by omega
 have hrd : rd s.1 (j : Int) = s.1[j] := by unfold rd; rw [Int.toNat_natCast, List.getD_eq_getElem?_getD, List.getElem?_eq_getElem hj]; rfl
 refine ⟨h.h0, h.h1, by rw [setV_len]; exact h.hl, ?_, ?_⟩
 ·show (setO s.1 s.2 n).length + cz (setV s.1 n) ≤ (setV s.1 n).length;rw [setV_len];unfold setV setO;rw [ht, hrd, Int.toNat_natCast];have h2 := h.hz;by_cases h0 : s.1[j] = 0
  ·rw [if_pos h0, if_pos h0, List.length_append, List.length_singleton];have := cz_set s.1 j (foS n) hj h0 (foS_ne hn.1);omega
  ·rw [if_neg h0, if_neg h0]; exact h2
 ·intro m hm;simp only [setO] at hm;split at hm
  ·rcases List.mem_append.mp hm with h3 | h3
   ·exact h.ho m h3
   ·have : m = n := (by simpa using h3);subst this;exact hn
  ·exact h.ho m hm
def clOk (names : Int) (l : List Int) : Prop := l.length ≤ 1000 ∧ ∀ n ∈ l, litOk names n
theorem SI.look {names : Int} {s : List Int × List Int} (h : SI names s) {l : List Int} (hl : clOk names l) : SI names (lookV s.1 l, lookO s.1 s.2 l) := by
 unfold lookV lookO;have hm := foLook_mem s.1 l 0;by_cases h0 : (foLook s.1 l 0).1 = 0
 ·rw [if_pos h0, if_pos h0]; exact h
 ·rw [if_neg h0, if_neg h0];refine h.set (hl.2 _ ?_);rcases hm with h1 | h1 | h1
  ·exact absurd h1 h0
  ·exact absurd h1 h0
  ·exact h1
theorem SI.pop {names : Int} {s : List Int × List Int} (h : SI names s) : SI names (s.1, s.2.drop 1) := by
 refine ⟨h.h0, h.h1, h.hl, ?_, fun n hn => h.ho n (List.mem_of_mem_drop hn)⟩;have := h.hz;rw [List.length_drop];show s.2.length - 1 + cz s.1 ≤ s.1.length;omega
theorem SI.foOk {names : Int} {s : List Int × List Int} (h : SI names s) {l : List Int} (hl : clOk names l) : foOk s.1 l := fun n hn => h.ok (hl.2 n hn)
structure FI (w : World) (names : Int) (A : Option Addr) (c : Nat) (L : List (List Int)) (s : List Int × List Int) (ps : List (Int × Int)) (vo : Value) (W : World) : Prop where
 fs : FS w.heap.size (w.heap.size + 3) (w.heap.size + 4) (w.heap.size + 1) s.1 s.2 vo W
 fb : FB w.heap.size (w.heap.size + 6) (w.heap.size + 3) (w.heap.size + 4) names A L.length c W
 fg : FG (w.heap.size + 5) ps vo W
 hb : Below w.heap.size w W
 si : SI names s
theorem FI.turn {w W W' : World} {names : Int} {A : Option Addr} {c : Nat} {L : List (List Int)} {s s' : List Int × List Int} {ps : List (Int × Int)} {vo vo' : Value} (h : FI w names A c L s ps vo W)
  (hfs : FS w.heap.size (w.heap.size + 3) (w.heap.size + 4) (w.heap.size + 1) s'.1 s'.2 vo' W') (hk : Kept W W' (FT (w.heap.size + 1) (w.heap.size + 4) vo)) (hat : vo'.ownBlock = vo.ownBlock ∨ ∃ b, vo'.ownBlock = some b ∧ W.heap.size ≤ b) (hb : Below w.heap.size W W') (hsi : SI names s') : FI w names A c L s' ps vo' W' := by
 refine ⟨hfs, h.fb.kept hk ?_ ?_, h.fg.turn h.fs hk (by omega) (by omega) hat, h.hb.trans hb, hsi⟩
 ·rintro (e | e | e)
  ·omega
  ·omega
  ·have := Kd.Q_typed h.fs.hq _ e.symm;obtain ⟨cs, hc⟩ := this;rw [h.fb.hc] at hc;injection hc with hc;injection hc with _ h2;exact absurd h2 (by decide)
 ·rintro (e | e | e)
  ·omega
  ·omega
  ·have := Kd.Q_typed h.fs.hq _ e.symm;obtain ⟨cs, hc⟩ := this;rw [h.fb.hs] at hc;injection hc with hc;injection hc with _ h2;exact absurd h2 (by decide)
theorem foZero (w : World) : (zeroValue 35).run Tryz.prog w = .ok (.slice none 0 0) w := by kernel_rfl
theorem foKey : Go.Maps.Keyed Tryz.prog 3 := Go.Maps.int_keyed Tryz.underlying3
theorem FG.step {gm : Nat} {ps : List (Int × Int)} {a k : Int} {vo v' : Value} {zs : List Int} {W W0 : World} {D : DataW Unit} (hw : (Lit.int .i64 a).wf = true) (hD : ∀ b : Int, (Lit.int .i64 b).wf = true → D.atKey (.int .i64 b) .nil = rowD (grp ps b)) (hM : W0.ownsGroups Tryz.prog 3 (gm + 1) 3 .i64 gm ps.length D)
  (ho : W.ownsGroups Tryz.prog 3 (gm + 1) 3 .i64 gm (ps.length + 1) (D.put (.int .i64 a) (rowDatum .i64 v' (zs ++ [k])))) (hz : zs = grp ps a) (hv : rowDatum (H := Unit) .i64 v' (zs ++ [k]) = .slice (Go.ChangeShapes.lits .i64 (zs ++ [k])) []) (hs : W.Shuns gm (fun g => some g = vo.ownBlock)) : FG gm (ps ++ [(a, k)]) vo W := by
 refine ⟨D.put (.int .i64 a) (rowDatum .i64 v' (zs ++ [k])), by rw [List.length_append]; exact ho, fun b hb => ?_, hs⟩;have hmap : Go.Maps.IsMap D := by
  obtain ⟨es, clock, _, _, _, e, _⟩ := hM;exact ⟨_, e⟩
 rw [grp_snoc];by_cases h : b = a
 ·subst h;rw [Go.Maps.atKey_put_same hmap (show Go.WideAt.IsKeyLit (.int .i64 b) from trivial), hv, if_pos rfl, ← hz];unfold rowD;rw [if_neg (by simp)]
 ·rw [Go.Maps.atKey_put_other (by intro e; injection e with _ e; exact h e), if_neg h];exact hD b hb
theorem lits_inj : ∀ (xs ys : List Int), (Go.ChangeShapes.lits (H := Unit) .i64 xs) = Go.ChangeShapes.lits .i64 ys → xs = ys
 | [], [], _ => rfl
 | [], _ :: _, h => by simp [Go.ChangeShapes.lits] at h
 | _ :: _, [], h => by simp [Go.ChangeShapes.lits] at h
 | x :: xs, y :: ys, h => by
  simp only [Go.ChangeShapes.lits, List.map_cons, List.cons.injEq, DataW.lit.injEq, Lit.int.injEq, true_and] at h;rw [h.1, lits_inj xs ys h.2]
theorem rowD_eq {v : Value} {zs ys : List Int} {W : World} {base : Nat} {e : TypeId} (ho : W.ownsInts base e .i64 v zs) (h : rowD ys = rowDatum (H := Unit) .i64 v zs) : zs = ys := by
 unfold rowD at h;rcases ho.datum (H := Unit) with ⟨h1, h2⟩ | h1
 ·rw [h1] at h;split at h
  ·rename_i h3; rw [h2, h3]
  ·cases h
 ·rw [h1] at h;split at h
  ·cases h
  ·injection h with h3;exact (lits_inj _ _ h3).symm
theorem FS.kept {base gv go gvr : Nat} {vals opn : List Int} {vo : Value} {W W' : World} {S : Nat → Prop} (h : FS base gv go gvr vals opn vo W) (hk : Kept W W' S) (h1 : ¬ S gv) (h2 : ¬ S gvr) (h3 : ¬ S go) (h4 : ∀ g, vo.ownBlock = some g → ¬ S g) : FS base gv go gvr vals opn vo W' :=
 ⟨(hk.2 gv (blk_lt h.hv) h1).trans h.hv, (hk.2 gvr h.gvrLt h2).trans h.hr, (hk.2 go h.goLt h3).trans h.ho,
  Kd.Q_mono (Kd.Q_step (Kd.Q_tight rfl h.hq) (fun k hk1 hlt => hk.2 k hlt (h4 k hk1.symm))) (fun k hk1 => h.hq.1 k hk1.symm), h.hne, h.hbv, h.hbo⟩
theorem FI.group {w W W' : World} {names : Int} {A : Option Addr} {c : Nat} {L : List (List Int)} {s : List Int × List Int} {ps ps' : List (Int × Int)} {vo u : Value} (h : FI w names A c L s ps vo W)
  (hk : Kept W W' (fun g => g = w.heap.size + 5 ∨ some g = u.ownBlock)) (hu : ∀ g, u.ownBlock = some g → w.heap.size + 6 ≤ g ∧ some g ≠ vo.ownBlock ∧ ∃ cs, W.heap[g]? = some (.cells cs 3 (0, 0))) (hb : Below w.heap.size W W') (hfg : FG (w.heap.size + 5) ps' vo W') : FI w names A c L s ps' vo W' := by
 obtain ⟨es0, clock0, hmb⟩ := h.fg.block;refine ⟨h.fs.kept hk ?_ ?_ ?_ ?_, h.fb.kept hk ?_ ?_, hfg, h.hb.trans hb, h.si⟩
 ·rintro (e | e)
  ·omega
  ·have := (hu _ e.symm).1; omega
 ·rintro (e | e)
  ·omega
  ·have := (hu _ e.symm).1; omega
 ·rintro (e | e)
  ·omega
  ·have := (hu _ e.symm).1; omega
 ·rintro g e (e2 | e2)
  ·obtain ⟨cs, hc⟩ := Kd.Q_typed h.fs.hq g e;rw [e2, hmb] at hc; cases hc
  ·exact (hu _ e2.symm).2.1 e.symm
 ·rintro (e | e)
  ·omega
  ·have := (hu _ e.symm).1; omega
 ·rintro (e | e)
  ·omega
  ·obtain ⟨cs, hc⟩ := (hu _ e.symm).2.2;rw [h.fb.hs] at hc;injection hc with hc;injection hc with _ h2;exact absurd h2 (by decide)
def stG (s : List Int × List Int) (n : Int) : List Int × List Int := (setV s.1 n, setO s.1 s.2 n)
def stL (s : List Int × List Int) (l : List Int) : List Int × List Int := (lookV s.1 l, lookO s.1 s.2 l)
def pairsOf (i : Nat) (l : List Int) : List (Int × Int) := l.map fun n => (wrap64 (-n), (i : Int))
def prs (L : List (List Int)) : Nat → List (Int × Int)
 | 0 => []
 | i + 1 => prs L i ++ pairsOf i (L.getD i [])
def ph1 : List (List Int) → List Int × List Int → Option (List Int × List Int)
 | [], s => some s
 | l :: r, s => if (foLook s.1 l 0).2 = true then none else ph1 r (stL s l)
def inn (L : List (List Int)) : List Int → List Int × List Int → Option (List Int × List Int)
 | [], s => some s
 | k :: r, s => if (foLook s.1 (L.getD k.toNat []) 0).2 = true then none else inn L r (stL s (L.getD k.toNat []))
def ph3 (L : List (List Int)) (ps : List (Int × Int)) : Nat → List Int × List Int → Option (List Int × Bool)
 | 0, _ => none
 | k + 1, s => match s.2 with
  | [] => some (s.1, false)
  | a :: _ => match inn L (grp ps a) s with
   | none => some ([], true)
   | some s' => ph3 L ps k (s'.1, s'.2.drop 1)
def fo0 (names : Int) : List Int × List Int := (List.replicate (names + 1).toNat 0, [])
def foK (L : List (List Int)) (k : Nat) : Option (List Int × List Int) → Option (List Int × Bool)
 | none => some ([], true)
 | some s => ph3 L (prs L L.length) k s
def litB (names n : Int) : Bool := decide (litOk names n)
def foGood (names : Int) (L : List (List Int)) (given : List Int) : Bool := decide (0 ≤ names ∧ names ≤ 1000000 ∧ L.length ≤ 1000000 ∧ given.length ≤ 2000000) && (given.all (litB names) && L.all fun l => decide (l.length ≤ 1000) && l.all (litB names))
def impl_Cnf_forced.f (k : Nat) (names : Int) (L : List (List Int)) (given : List Int) : Option (List Int × Bool) :=
 if foGood names L given = true then foK L k (ph1 L (given.foldl stG (fo0 names))) else none
theorem ph3_mono (L : List (List Int)) (ps : List (Int × Int)) : ∀ k s, LeO (ph3 L ps k s) (ph3 L ps (k + 1) s)
 | 0, _ => fun r h => by simp [ph3] at h
 | k + 1, s => by
  intro r h;rw [ph3] at h ⊢;split at h
  ·exact h
  ·split at h
   ·exact h
   ·exact ph3_mono L ps k _ r h
theorem impl_Cnf_forced.mono : ∀ a0 a1 a2 k, LeO (impl_Cnf_forced.f k a0 a1 a2) (impl_Cnf_forced.f (k + 1) a0 a1 a2) := by
 intro a0 a1 a2 k;unfold impl_Cnf_forced.f;refine LeO.ite ?_ (LeO.refl _);unfold foK;split
 ·exact LeO.refl _
 ·exact ph3_mono _ _ _ _
def foW (w : World) (a0_0 : Int) (A0_1 : Option Addr) (c0_1 n : Nat) (N : Nat) : World :=
   (((((((w.alloc (Obj.cells #[Value.int IntKind.i64 a0_0, Value.slice A0_1 n c0_1] 47)).alloc (Obj.cells (madeCells #[Value.int IntKind.i64 0] N) 3)).alloc (Obj.cells #[] 3)).alloc
    (Obj.cells #[Value.slice (some { block := w.heap.size + 1, off := 0 }) N N] 35)).alloc (Obj.cells #[Value.slice (some { block := w.heap.size + 2, off := 0 }) 0 0] 35)).alloc (Obj.map #[] 0)).alloc
    (Obj.cells #[Value.func (Fn.func 102) #[] #[Value.pointer (some { block := w.heap.size + 3, off := 0 }), Value.pointer (some { block := w.heap.size + 4, off := 0 })]] 127))
theorem foW_eq (w : World) (a0_0 : Int) (A0_1 : Option Addr) (c0_1 n : Nat) (N : Nat) : foW w a0_0 A0_1 c0_1 n N =
   (((((((w.alloc (Obj.cells #[Value.int IntKind.i64 a0_0, Value.slice A0_1 n c0_1] 47)).alloc (Obj.cells (madeCells #[Value.int IntKind.i64 0] N) 3)).alloc (Obj.cells #[] 3)).alloc
    (Obj.cells #[Value.slice (some { block := w.heap.size + 1, off := 0 }) N N] 35)).alloc (Obj.cells #[Value.slice (some { block := w.heap.size + 2, off := 0 }) 0 0] 35)).alloc (Obj.map #[] 0)).alloc
    (Obj.cells #[Value.func (Fn.func 102) #[] #[Value.pointer (some { block := w.heap.size + 3, off := 0 }), Value.pointer (some { block := w.heap.size + 4, off := 0 })]] 127)) := rfl
theorem foStart (w : World) (a0_0 : Int) (A0_1 : Option Addr) (c0_1 : Nat) (L : List (List Int)) (N : Nat) (hN : a0_0 + 1 = (N : Int)) (h0 : 0 ≤ a0_0) (h1 : a0_0 ≤ 1000000) :
  FI w a0_0 A0_1 c0_1 L (fo0 a0_0) [] (.slice (some ⟨w.heap.size + 2, 0, none⟩) 0 0) (foW w a0_0 A0_1 c0_1 L.length N) := by
 rw [foW_eq];have hs : ∀ (W : World) (o : Obj), (W.alloc o).heap.size = W.heap.size + 1 := fun W o => World.size_alloc W o;have hh : ∀ (W : World) (o : Obj) (k : Nat), (W.alloc o).heap[k]? = if k = W.heap.size then some o else W.heap[k]? := fun W o k => Array.getElem?_push
 have hmade : madeCells #[Value.int IntKind.i64 0] N = ((fo0 a0_0).1.map (Value.int .i64)).toArray := by
  apply Array.ext
  ·simp [size_madeCells, fo0, hN]
  ·intro i hi1 hi2;simp [madeCells, fo0];rw [Nat.mod_one];rfl
 have hlen : (fo0 a0_0).1.length = N := by unfold fo0; simp [hN]
 have hq0 : ∀ W : World, W.heap.size = w.heap.size + 2 → Kd.Q (Kd.int .i64) 3 (W.alloc (Obj.cells #[] 3)) w.heap.size (fun k => k ≠ w.heap.size + 1) (.slice (some ⟨w.heap.size + 2, 0, none⟩) 0 0) [] := fun W hW => by
  have h := World.ownsRow_lit (base := w.heap.size) (e := 3) (size := 1) W #[] 0 (by omega) (by simp [maxLen]) rfl;rw [hW] at h;exact Kd.Q_of_R (Kd.R_of_own (ok := fun k => k ≠ w.heap.size + 1) (enc := Value.int .i64) (h1 := fun _ => rfl) (xs := []) h (fun k hk => by simp [Value.ownBlock] at hk; omega))
 have hg0 : ∀ W : World, W.heap.size = w.heap.size + 5 → ∀ o : Obj, FG (w.heap.size + 5) [] (.slice (some ⟨w.heap.size + 2, 0, none⟩) 0 0) ((W.alloc (Obj.map #[] 0)).alloc o) := fun W hW o => by
  have h := World.ownsGroups_made (H := Unit) W Tryz.prog 3 3 .i64;have hsh := World.Shuns_made W (fun k => some k = (Value.slice (some ⟨w.heap.size + 2, 0, none⟩) 0 0).ownBlock);rw [hW] at h hsh;have hsame : ((W.alloc (Obj.map #[] 0)).alloc o).heap[w.heap.size + 5]? = (W.alloc (Obj.map #[] 0)).heap[w.heap.size + 5]? := by rw [hh, if_neg (by rw [hs]; omega)]
  refine ⟨.map [], groups_move h hsame (fun es clock hb x hx g hg => ?_), fun a _ => rfl, fun es clock hb => hsh es clock (hsame.symm.trans hb)⟩;rw [hh, if_neg];have := (groups_lt h es clock hb x hx g hg).2;omega
 refine ⟨⟨?_, ?_, ?_, ?_, by omega, by omega, by omega⟩, ⟨?_, ?_⟩, ?_, ?_, ?_⟩
 ·rw [hlen]; simp only [hh, hs]; repeat (first | rw [if_pos trivial] | rw [if_pos (by omega)] | rw [if_neg (by omega)])
 ·rw [← hmade]; simp only [hh, hs]; repeat (first | rw [if_pos trivial] | rw [if_pos (by omega)] | rw [if_neg (by omega)])
 ·simp only [hh, hs]; repeat (first | rw [if_pos trivial] | rw [if_pos (by omega)] | rw [if_neg (by omega)])
 ·exact Kd.Q_alloc (Kd.Q_alloc (Kd.Q_alloc (Kd.Q_alloc (hq0 _ (by simp only [hs])) _) _) _) _
 ·simp only [hh, hs]; repeat (first | rw [if_pos trivial] | rw [if_pos (by omega)] | rw [if_neg (by omega)])
 ·simp only [hh, hs]; repeat (first | rw [if_pos trivial] | rw [if_pos (by omega)] | rw [if_neg (by omega)])
 ·exact hg0 _ (by simp only [hs]) _
 ·repeat (first | exact Below.refl _ _ | apply below_alloc)
 ·refine ⟨h0, h1, ?_, ?_, fun n hn => by cases hn⟩
  ·rw [hlen]; omega
  ·unfold fo0 cz;simp
theorem prs_len (L : List (List Int)) (h : ∀ l ∈ L, l.length ≤ 1000) : ∀ i, (prs L i).length ≤ 1000 * i
 | 0 => Nat.le_refl _
 | i + 1 => by
  have ih := prs_len L h i;rw [prs, List.length_append];unfold pairsOf;rw [List.length_map];have : (L.getD i []).length ≤ 1000 := by
   rw [List.getD_eq_getElem?_getD];rcases Nat.lt_or_ge i L.length with hi | hi
   ·rw [List.getElem?_eq_getElem hi]; exact h _ (List.getElem_mem hi)
   ·rw [List.getElem?_eq_none hi]; exact Nat.zero_le _
  omega
theorem FS.R {base gv go gvr : Nat} {vals opn : List Int} {vo : Value} {W : World} (h : FS base gv go gvr vals opn vo W) (hl : vals.length ≤ 100000000) : Kd.R (Kd.int .i64) 3 W base (fun _ => True) (.slice (some ⟨gvr, 0, none⟩) vals.length vals.length) vals := by
 have h0 : W.ownsRow base 3 1 (.slice (some ⟨gvr, 0, none⟩) vals.length vals.length) vals.length (vals.map (Value.int .i64)) := ⟨by simp, .inr ⟨gvr, vals.length, _, rfl, h.hbv, h.hr, Nat.le_refl _, by unfold maxLen; omega, by simp, by simp [List.take_of_length_le]⟩⟩;exact Kd.R_of_own (ok := fun _ => True) (enc := Value.int .i64) (h1 := fun _ => rfl) (xs := vals) h0 (fun _ _ => trivial)
theorem prs_mem (L : List (List Int)) : ∀ (n : Nat) (p : Int × Int), p ∈ prs L n → ∃ i : Nat, i < n ∧ p.2 = (i : Int)
 | 0, p, h => by cases h
 | n + 1, p, h => by
  rw [prs] at h;rcases List.mem_append.mp h with h | h
  ·obtain ⟨i, hi, e⟩ := prs_mem L n p h;exact ⟨i, by omega, e⟩
  ·unfold pairsOf at h;obtain ⟨x, _, rfl⟩ := List.mem_map.mp h;exact ⟨n, by omega, rfl⟩
theorem grp_mem (L : List (List Int)) (n : Nat) (a k : Int) (h : k ∈ grp (prs L n) a) : ∃ i : Nat, i < n ∧ k = (i : Int) := by
 unfold grp at h;obtain ⟨p, hp, rfl⟩ := List.mem_map.mp h;obtain ⟨i, hi, e⟩ := prs_mem L n p (List.mem_filter.mp hp).1;exact ⟨i, hi, e⟩
theorem lookO_len (vals opn l : List Int) : opn.length ≤ (lookO vals opn l).length := by
 unfold lookO;split
 ·exact Nat.le_refl _
 ·unfold setO;split
  ·simp
  ·exact Nat.le_refl _
def foK3 (L : List (List Int)) (ps : List (Int × Int)) (k : Nat) : Option (List Int × List Int) → Option (List Int × Bool)
 | none => some ([], true)
 | some s' => ph3 L ps k (s'.1, s'.2.drop 1)
theorem ph3_cons (L : List (List Int)) (ps : List (Int × Int)) (k : Nat) (s : List Int × List Int) (a : Int) (r : List Int) (h : s.2 = a :: r) : ph3 L ps (k + 1) s = foK3 L ps k (inn L (grp ps a) s) := by
 rw [ph3, h];unfold foK3;rfl
theorem ph3_nil (L : List (List Int)) (ps : List (Int × Int)) (k : Nat) (s : List Int × List Int) (h : s.2 = []) : ph3 L ps (k + 1) s = some (s.1, false) := by
 rw [ph3, h]
theorem FI.pop {w W : World} {names : Int} {A : Option Addr} {c : Nat} {L : List (List Int)} {s : List Int × List Int} {ps : List (Int × Int)} {vo vo' : Value} (h : FI w names A c L s ps vo W) (hq : Kd.Q (Kd.int .i64) 3 W w.heap.size (fun k => k ≠ w.heap.size + 1) vo' (s.2.drop 1)) (he : vo'.ownBlock = vo.ownBlock) :
  FI w names A c L (s.1, s.2.drop 1) ps vo' (W.setCell ⟨w.heap.size + 4, 0, none⟩ vo') := by
 have hfs := FS.push h.fs ⟨rfl, rfl, rfl, Nat.le_refl _, fun _ _ _ => rfl⟩ hq;exact h.turn (s' := (s.1, s.2.drop 1)) hfs ⟨by simp [World.setCell], fun k hk hn => Below.heap_setCell _ _ _ _ (fun e => hn (.inr (.inl e)))⟩ (.inl he) ((Below.refl _ _).setCell (p := ⟨w.heap.size + 4, 0, none⟩) (by show _ ≤ w.heap.size + 4; omega) _) h.si.pop
theorem impl_Cnf_forced.calls (k : Nat) (a0_0 : Int) (A0_1 : Option Addr) (c0_1 : Nat) (l0_1 : List (List Int)) (A1 : Option Addr) (c1 : Nat) (l1 : List Int) (r1 : List Int) (r2 : Bool) (w : World) (hr0_1 : Kd.C (Kd.slice 3 (Kd.int .i64)) w A0_1 l0_1.length l0_1) (hc0_1 : l0_1.length ≤ c0_1) (hr1 : Kd.C (Kd.int .i64) w A1 l1.length l1) (hc1 : l1.length ≤ c1) (h : impl_Cnf_forced.f k a0_0 l0_1 l1 = some (r1, r2)) :
  Calls Tryz.prog 76 #[.agg #[.int .i64 a0_0, .slice A0_1 l0_1.length c0_1], .slice A1 l1.length c1] w fun e w' => ∃ v0_ : Value, e = .returned (.tuple #[v0_, .bool r2]) ∧ Kd.R (Kd.int .i64) 3 w' w.heap.size (fun _ => True) v0_ r1 ∧ Below w.heap.size w w' := by
 unfold impl_Cnf_forced.f at h;split at h;case isFalse => cases h
 rename_i hgood
 unfold foGood at hgood;simp only [Bool.and_eq_true, decide_eq_true_eq, List.all_eq_true] at hgood;obtain ⟨⟨hn0, hn1, hL1, hg1⟩, hgv, hcl⟩ := hgood;have hgv' : ∀ n ∈ l1, litOk a0_0 n := fun n hn => of_decide_eq_true (hgv n hn);have hcl' : ∀ l ∈ l0_1, clOk a0_0 l := fun l hl => ⟨(hcl l hl).1, fun n hn => of_decide_eq_true ((hcl l hl).2 n hn)⟩;clear hgv hcl;have hmm := @run_makeMap Tryz.prog;obtain ⟨N, hN⟩ : ∃ N : Nat, a0_0 + 1 = (N : Int) := ⟨(a0_0 + 1).toNat, by omega⟩;have hmk1 : ∀ W : World, (Instr.makeSlice 35 (.int .i64 (N : Int)) (.int .i64 (N : Int))).run Tryz.prog W = .ok (.slice (some ⟨W.heap.size, 0, none⟩) N N) (W.alloc (.cells (madeCells #[.int .i64 0] N) 3)) := print_make 35 3 .i64 8 Tryz.underlying35 info3 (by decide) N (by omega);have e1 : wrap64 (a0_0 + 1) = (N : Int) := by unfold wrap64; omega
 have e2 := hN;have HST := foStart w a0_0 A0_1 c0_1 l0_1 N hN hn0 hn1;have HSI := HST.si;have HC := qa hr0_1;have HCL := qa hcl';have HGV := qa hgv';have HR1 := qa hr1;have HH := qa h;have HS0 := qa HST;have hu := Tryz.underlying47;clear h hgv' hcl' hr0_1 hr1 HST hN HSI;go_enter Tryz.func76, Tryz.ntmps76
 go_upto_region 4 with (fail)
 simp only [Nat.add_assoc, Nat.reduceAdd];rw [← foW_eq w a0_0 A0_1 c0_1 l0_1.length N];generalize foW w a0_0 A0_1 c0_1 l0_1.length N = W0 at HS0 ⊢;go_wp2
 go_loopg [28] l1.length (fun gg v28 wr => ∃ (i : Nat) (s : List Int × List Int) (vo : Value), i ≤ l1.length ∧ l1.length - i ≤ gg ∧ v28 = .int .i64 (i : Int) ∧ Aside0 (FI w a0_0 A0_1 c0_1 l0_1 s [] vo wr) ∧ Aside0 ((l1.drop i).foldl stG s = l1.foldl stG (fo0 a0_0)))
 case atStart => exact ⟨0, _, _, Nat.zero_le _, by omega, rfl, HS0, ⟨by rw [List.drop_zero]⟩⟩
 case round =>
  clear HS0;obtain ⟨i, s, vo, hi, hg, rfl, HI, HA⟩ := hrel;by_cases hlt : i < l1.length
  ·have hltz : (i : Int) < (l1.length : Int) := (by omega);obtain ⟨ad, e0, hx⟩ := Kd.at_int HR1.out (i : Int) (by omega) hltz;subst e0;have hxw := (HI.out.hb.cell (World.block_lt_of_cell? w _ hx)).trans hx;obtain ⟨x, hxe⟩ : ∃ x, l1[i] = x := ⟨_, rfl⟩;have hrdx : rd l1 (i : Int) = x := (by unfold rd; rw [Int.toNat_natCast, List.getD_eq_getElem?_getD, List.getElem?_eq_getElem hlt]; exact hxe);rw [hrdx, Int.toNat_natCast] at hxw;have hxo := HGV.out l1[i] (List.getElem_mem hlt);rw [hxe] at hxo;have hA := HA.out;rw [List.drop_eq_getElem_cons hlt, hxe, List.foldl_cons] at hA;have HA1 := qa hA;have hok := HI.out.si.ok hxo;have HSET := qa (foSet x HI.out.fs hok.1 hok.2 HI.out.si.room);have HSI := qa (HI.out.si.set hxo);have hcs : wr.cell? ⟨w.heap.size + 6, 0, none⟩ = some (.func (.func 102) #[] #[.pointer (some ⟨w.heap.size + 3, 0, none⟩), .pointer (some ⟨w.heap.size + 4, 0, none⟩)]) := (blk_cell HI.out.fb.hs 0).trans rfl;have p6 : ((0 : Int) ≤ (i : Int)) = True := eq_true (by omega);have q6 : ((i : Int) < (l1.length : Int)) = True := eq_true hltz;clear hA HA hxe hrdx hx hxo hok;go_wp2_with (go_at_call 102; refine (HSET.out).mono ?_; rintro e w2 ⟨rfl, hp⟩; have HP := qa hp; clear hp)
   go_roundg (l1.length - (i + 1));case measure => omega
   case rel =>
    obtain ⟨vo', q1, q2, q3, q4⟩ := HP.out;exact ⟨i + 1, stG s x, vo', by omega, by omega, by go_num, ⟨HI.out.turn (s' := stG s x) q1 q2 q3 q4 HSI.out⟩, HA1⟩
  ·have hltz : ¬ (i : Int) < (l1.length : Int) := (by omega);have hA := HA.out;rw [List.drop_eq_nil_of_le (by omega)] at hA;have HA1 := qa (show s = l1.foldl stG (fo0 a0_0) from hA);clear HA hA;go_upto_region 10 with (fail)
   have hcc : wr.cell? ⟨w.heap.size, 1, none⟩ = some (.slice A0_1 l0_1.length c0_1) := (blk_cell HI.out.fb.hc 1).trans rfl;obtain ⟨wo, rfl⟩ : ∃ wo : World, wo = wr := ⟨_, rfl⟩;go_wp2
   go_loopg [40] l0_1.length (fun gg v40 w2 => ∃ (i : Nat) (s : List Int × List Int) (vo : Value), i ≤ l0_1.length ∧ l0_1.length - i ≤ gg ∧ v40 = .int .i64 (i : Int) ∧ Aside0 (FI w a0_0 A0_1 c0_1 l0_1 s (prs l0_1 i) vo w2) ∧ Aside0 (foK l0_1 k (ph1 (l0_1.drop i) s) = some (r1, r2)))
   case atStart => exact ⟨0, s, vo, Nat.zero_le _, by omega, rfl, HI, ⟨by rw [List.drop_zero, HA1.out]; exact HH.out⟩⟩
   case round =>
    clear HI HA1 hcc hlt hltz hi hg HH;obtain ⟨i, s, vo, hi, hg, rfl, HI, HA⟩ := hrel;by_cases hlt : i < l0_1.length
    ·have hltz : (i : Int) < (l0_1.length : Int) := (by omega);obtain ⟨ad, A0r, c0r, e0, hx, hc0r, hrow⟩ := foRow HC.out i hlt hlt;subst e0;have hcl1 := HCL.out l0_1[i] (List.getElem_mem hlt);have hgetD : l0_1.getD i [] = l0_1[i] := (by rw [List.getD_eq_getElem?_getD, List.getElem?_eq_getElem hlt]; rfl);have hA := HA.out;rw [List.drop_eq_getElem_cons hlt] at hA;have hxw := (HI.out.hb.cell (World.block_lt_of_cell? w _ hx)).trans hx;have HLC := qa (fun (vo' : Value) (W : World) (hI : FI w a0_0 (some ad) c0_1 l0_1 s (prs l0_1 (i + 1)) vo' W) => foLookC (w := W) a0_0 (some ad) c0_1 l0_1 i hlt hI.fs hI.fb (Kd.C_below HC.out hI.hb) (hI.si.foOk hcl1) (by have := hcl1.1; omega) hL1 hI.si.room _ rfl);have HSL := qa (HI.out.si.look hcl1);have hprs : prs l0_1 (i + 1) = prs l0_1 i ++ pairsOf i l0_1[i] := (by rw [prs, hgetD]);obtain ⟨l, hle⟩ : ∃ l, l0_1[i] = l := ⟨_, rfl⟩;rw [hle] at hx hc0r hrow hcl1 hA hxw HLC HSL hprs;have HRW := qa hrow;have HCL1 := qa hcl1;have HPR := qa hprs;have HA1 := qa hA;have p6 : ((0 : Int) ≤ (i : Int)) = True := eq_true (by omega);have q6 : ((i : Int) < (l0_1.length : Int)) = True := eq_true hltz;have hll := hcl1.1;clear hA HA hx hrow hcl1 hprs hgetD hle;go_upto_region 13 with (fail)
     obtain ⟨wo2, hwo2⟩ : ∃ wo2 : World, wo2 = wr := ⟨_, rfl⟩;subst hwo2;go_wp2
     go_loopg [47] l.length (fun gg v47 w3 => ∃ (j : Nat), j ≤ l.length ∧ l.length - j ≤ gg ∧ v47 = .int .i64 (j : Int) ∧ Aside0 (FI w a0_0 (some ad) c0_1 l0_1 s (prs l0_1 i ++ (pairsOf i l).take j) vo w3))
     case atStart => exact ⟨0, Nat.zero_le _, by omega, rfl, ⟨by rw [List.take_zero, List.append_nil]; exact HI.out⟩⟩
     case round =>
      clear HI hxw;obtain ⟨j, hj, hgj, rfl, HI⟩ := hrel;by_cases hltj : j < l.length
      ·have hltjz : (j : Int) < (l.length : Int) := (by omega);obtain ⟨ad2, e2, hx2⟩ := Kd.at_int HRW.out (j : Int) (by omega) hltjz;subst e2;have hx2w := (HI.out.hb.cell (World.block_lt_of_cell? w _ hx2)).trans hx2;obtain ⟨x, hxe⟩ : ∃ x, l[j] = x := ⟨_, rfl⟩;have hrdx : rd l (j : Int) = x := (by unfold rd; rw [Int.toNat_natCast, List.getD_eq_getElem?_getD, List.getElem?_eq_getElem hltj]; exact hxe);rw [hrdx, Int.toNat_natCast] at hx2w;have hxo := HCL1.out.2 l[j] (List.getElem_mem hltj);rw [hxe] at hxo;obtain ⟨a, ha⟩ : ∃ a, wrap64 (-x) = a := ⟨_, rfl⟩;have haw : IntKind.i64.wrap (-x) = a := (i64_w _).trans ha;have hwf : (Lit.int .i64 a).wf = true := (by rw [← ha]; exact wrap64_wf _);have hkey := Go.Maps.keyOf_int_mk Tryz.underlying3 hwf;have htk : (pairsOf i l).take (j + 1) = (pairsOf i l).take j ++ [(a, (i : Int))] := by
        have h1 : (pairsOf i l)[j]? = some (a, (i : Int)) := (by unfold pairsOf; rw [List.getElem?_map, List.getElem?_eq_getElem hltj, hxe, Option.map_some, ha]);rw [List.take_add_one, h1]; rfl
       obtain ⟨ps, hps⟩ : ∃ ps, prs l0_1 i ++ (pairsOf i l).take j = ps := ⟨_, rfl⟩;rw [hps] at HI;have hps2 : prs l0_1 i ++ (pairsOf i l).take (j + 1) = ps ++ [(a, (i : Int))] := (by rw [htk, ← List.append_assoc, hps]);have hpl : ps.length ≤ 2000000000 := by
        have h1 := prs_len l0_1 (fun l hl => (HCL.out l hl).1) i;rw [← hps, List.length_append];have h2 := List.length_take_le' j (pairsOf i l);have h3 : (pairsOf i l).length = l.length := (by unfold pairsOf; rw [List.length_map]);omega
       have HPS := qa hps2;have HWF := qa hwf;have HKEY := qa hkey;obtain ⟨D, hown, hD, hsh⟩ := HI.out.fg;have HOWN := qa hown;have HSH := qa hsh;have HDD := qa hD;obtain ⟨i0, hi0, hz0, hz1, hz2⟩ := info_parts info3;have hq6 : ((j : Int) < (l.length : Int)) = True := eq_true hltjz;have hp6 : ((0 : Int) ≤ (j : Int)) = True := eq_true (by omega);have hsz6 : w.heap.size + 6 ≤ wr.heap.size := (by have := blk_lt HI.out.fb.hs; omega);have HPL := qa hpl;have HSZ := qa hsz6;have HI0 := qa (show ∀ (v : Value) (n : Nat), True from fun _ _ => trivial);clear hps hps2 hown hD hsh hxe hrdx hx2 hxo ha hwf hkey htk hpl hsz6;go_wp2_with (first
        | (at_lookup; refine wpList_lookup_groups_shuns _ rfl _ _ 124 rfl 3 35 3 .i64 foKey Tryz.underlying124 (foZero _) (w.heap.size + 5 + 1) (w.heap.size + 5) ps.length D rfl HOWN.out (by have := HPL.out; unfold maxLen; omega) _ _ rfl HKEY.out ?_; intro u zs hat hoi hzl hback hsu; have HAT := qa hat; have HOI := qa hoi; have HBACK := qa hback; have HSU := qa hsu; have HZL := qa hzl; clear hat hoi hback hsu hzl)
        | (at_builtin; refine wpList_append_own_at _ rfl _ _ 35 rfl (w.heap.size + 5 + 1) 3 i0 (.int .i64 0) 1 8 Tryz.underlying35 hi0 hz0 hz1 hz2 rfl (by decide) _ _ _ rfl (HOI.out.1.alloc _) ⟨wr.heap.size, 0, none⟩ 1 1 [.int .i64 (i : Int)] rfl rfl (cell_one_new _ _ _) (ints_oneCell .i64 [(i : Int)]) (by have := HPL.out; have := HZL.out; unfold maxLen; omega) (by have := HPL.out; have := HZL.out; omega) (by have := HSZ.out; simp; omega) ?_; intro v' w1 hown' hgrow hnil hloc; have HOWN' := qa hown'; have HGROW := qa hgrow; have HLOC := qa hloc; clear hown' hgrow hloc hnil)
        | (at_mapUpdate; refine wpList_mapUpdate_back_shuns _ rfl _ _ _ 124 rfl foKey Tryz.underlying124 HKEY.out HOWN.out (by have := HPL.out; unfold maxLen; omega) HOI.out HSH.out ?hno HBACK.out rfl rfl rfl ((World.grownBy_alloc _ _ _).trans HGROW.out) (HOI.out.appended HOWN'.out (WalkArith.wf_i64 (by omega))) (by have := HZL.out; simp; omega) (HLOC.out.imp id (fun h => ⟨_, h, by simp⟩)) ?_; (case hno => intro g hg0 e_; have hg : v'.ownBlock = some g := hg0; rcases HLOC.out with h1 | h1; exact HSU.out _ HSH.out g (h1.symm.trans hg) e_; have h2 := Kd.Q_lt HI.out.fs.hq g e_.symm; rw [h1, World.size_alloc] at hg; injection hg with hg; omega); intro w6 hown6 hgrow6 hsh6; have HOWN6 := qa hown6; have HGROW6 := qa hgrow6; have HSH6 := qa hsh6; clear hown6 hgrow6 hsh6))
       go_roundg (l.length - (j + 1));case measure => omega
       case rel =>
        refine ⟨j + 1, by omega, by omega, by go_num, ⟨?_⟩⟩;rw [HPS.out];have hall := (World.grownBy_alloc wr _ _).trans HGROW.out;have hun : ∀ g, u.ownBlock = some g → w.heap.size + 6 ≤ g := fun g hg => (HOI.out.1.lt g hg).1;have hk : Kept wr w6 (fun g => g = w.heap.size + 5 ∨ some g = u.ownBlock) := ⟨Nat.le_trans hall.size HGROW6.out.size, fun g hg hn => (HGROW6.out.block g (Nat.lt_of_lt_of_le hg hall.size) (fun e => hn (.inl (by injection e)))).trans (hall.block g hg (fun e => hn (.inr e)))⟩;have hb6 : Below w.heap.size wr w6 := ((Below.refl _ wr).grown hall (by have := HSZ.out; omega) (fun g hg => by have := hun g hg; omega)).grown HGROW6.out (by have := HSZ.out; have := hall.size; omega) (fun g hg => by injection hg with hg; omega);refine HI.out.group hk (fun g hg => ⟨hun g hg, fun e => HSU.out _ HSH.out g hg e, own_typed HOI.out.1 g hg⟩) hb6 ?_;exact FG.step HWF.out HDD.out HOWN.out HOWN6.out (rowD_eq HOI.out ((HDD.out a HWF.out).symm.trans HAT.out)) ((HOI.out.appended HOWN'.out (WalkArith.wf_i64 (by omega))).datum_pos (by simp)) HSH6.out
      ·have hltjz : ¬ (j : Int) < (l.length : Int) := (by omega);have hHI := HI.out;rw [List.take_of_length_le (by unfold pairsOf; rw [List.length_map]; omega), ← HPR.out] at hHI;have HI2 := qa hHI;have HCALL := qa (HLC.out vo wr hHI);obtain ⟨cf, hcf⟩ : ∃ cf, (foLook s.1 l 0).2 = cf := ⟨_, rfl⟩;rw [hcf] at HCALL;have hA := HA1.out;simp only [ph1] at hA;rw [hcf] at hA;clear HI hHI HLC HA1 hcf;cases cf with
       | true =>
        rw [if_pos rfl] at hA;simp only [foK, Option.some.injEq, Prod.mk.injEq] at hA;obtain ⟨rfl, rfl⟩ := hA;go_wp2_with (go_at_call 105; refine (HCALL.out).mono ?_; rintro e w5 ⟨rfl, hp⟩; have HP := qa hp; clear hp)
        go_ret2
        obtain ⟨vo', q1, q2, q3, q4⟩ := HP.out;exact ⟨_, rfl, Kd.R_nil _ _ _ _ _, HI2.out.hb.trans q4⟩
       | false =>
        rw [if_neg (by decide)] at hA;have HA2 := qa hA;clear hA;go_wp2_with (go_at_call 105; refine (HCALL.out).mono ?_; rintro e w5 ⟨rfl, hp⟩; have HP := qa hp; clear hp)
        go_roundg (l0_1.length - (i + 1));case measure => omega
        case rel =>
         obtain ⟨vo', q1, q2, q3, q4⟩ := HP.out;exact ⟨i + 1, stL s l, vo', by omega, by omega, by go_num, ⟨HI2.out.turn (s' := stL s l) q1 q2 q3 q4 HSL.out⟩, HA2⟩
    ·have hltz : ¬ (i : Int) < (l0_1.length : Int) := (by omega);obtain rfl : i = l0_1.length := (by omega);have hA := HA.out;rw [List.drop_length] at hA;have HA1 := qa (show ph3 l0_1 (prs l0_1 l0_1.length) k s = some (r1, r2) from hA);clear hA HA;have hpl := prs_len l0_1 (fun l hl => (HCL.out l hl).1) l0_1.length;have hpm := grp_mem l0_1 l0_1.length;obtain ⟨ps, hps⟩ : ∃ ps, prs l0_1 l0_1.length = ps := ⟨_, rfl⟩;rw [hps] at HI HA1 hpl hpm;have HPM := qa hpm;have hpl2 : ps.length ≤ 2000000000 := (by omega);have HPL := qa hpl2;clear hps hpl hpm hpl2;obtain ⟨wo2, hwo2⟩ : ∃ wo2 : World, wo2 = wr := ⟨_, rfl⟩;subst hwo2;go_wp2
     go_loopg [77] k (fun gg v77 w4 => ∃ (s : List Int × List Int) (vo : Value), Aside0 (FI w a0_0 A0_1 c0_1 l0_1 s ps vo w4) ∧ Aside0 (ph3 l0_1 ps gg s = some (r1, r2)))
     case atStart => exact ⟨s, vo, HI, HA1⟩
     case round =>
      clear HI HA1;obtain ⟨s, vo, HI, HA⟩ := hrel;cases gk with
      | zero => exact absurd HA.out (by simp [ph3])
      | succ k1 =>
       obtain ⟨Ao, co, evo, hle⟩ := Kd.Q_slice HI.out.fs.hq;subst evo;have hco : wr.cell? ⟨w.heap.size + 4, 0, none⟩ = some (.slice Ao s.2.length co) := (blk_cell HI.out.fs.ho 0).trans rfl;cases hs2 : s.2 with
       | nil =>
        have hA := HA.out;rw [ph3_nil _ _ _ _ hs2] at hA;simp only [Option.some.injEq, Prod.mk.injEq] at hA;obtain ⟨rfl, rfl⟩ := hA;rw [hs2] at hco;have hcv : wr.cell? ⟨w.heap.size + 3, 0, none⟩ = some (.slice (some ⟨w.heap.size + 1, 0, none⟩) s.1.length s.1.length) := (blk_cell HI.out.fs.hv 0).trans rfl;have hRR := HI.out.fs.R (by have h1 := HI.out.si.hl; have h2 := HI.out.si.h1; omega);have HRR := qa hRR;clear hRR hs2;go_wp2
        go_ret2
        exact ⟨_, rfl, HRR.out, HI.out.hb⟩
       | cons a rs =>
        have hA := HA.out;rw [ph3_cons _ _ _ _ _ _ hs2] at hA;have HA1 := qa hA;have hao := HI.out.si.ho a (by rw [hs2]; exact List.mem_cons_self);have hwf : (Lit.int .i64 a).wf = true := WalkArith.wf_i64 (by have h1 := HI.out.si.h1; obtain ⟨h2, h3, h4⟩ := hao; omega);have hC := (Kd.Q_reads' HI.out.fs.hq).2.2;have hpos : 0 < s.2.length := (by rw [hs2]; simp);obtain ⟨ad, e0, hx⟩ := Kd.at_int hC 0 (by omega) (by omega);subst e0;have hrd0 : rd s.2 0 = a := (by rw [hs2]; rfl);rw [hrd0, show ad.add (Int.toNat 0) = ad from by cases ad; rfl] at hx;have HKEY := qa (Go.Maps.keyOf_int_mk Tryz.underlying3 hwf);obtain ⟨D, hown, hD, hsh⟩ := HI.out.fg;have HOWN := qa hown;have HSH := qa hsh;have HDA := qa (hD a hwf);have hposz : (0 : Int) < (s.2.length : Int) := (by omega);have q0 := eq_true hposz;have HS2 := qa hs2;clear hA HA hao hwf hC hrd0 hown hD hsh hs2;go_upto_region 24 with (at_lookup; refine wpList_lookup_groups_shuns _ rfl _ _ 124 rfl 3 35 3 .i64 foKey Tryz.underlying124 (foZero _) (w.heap.size + 5 + 1) (w.heap.size + 5) ps.length D rfl HOWN.out (by have := HPL.out; unfold maxLen; omega) _ _ rfl HKEY.out ?_; intro u zs hat hoi hzl hback hsu; have HAT := qa hat; have HOI := qa hoi; have HSU := qa hsu; have HZL := qa hzl; clear hat hoi hback hsu hzl; obtain ⟨Au, cu, eu⟩ := Kd.R_slice (Kd.R_of_own (ok := fun _ => True) (enc := Value.int .i64) (h1 := fun _ => rfl) (xs := zs) HOI.out.1 (fun _ _ => trivial)); subst eu)
        have hzs : zs = grp ps a := rowD_eq HOI.out (HDA.out.symm.trans HAT.out);have HR5 := qa (Kd.R_of_own (ok := fun _ => True) (enc := Value.int .i64) (h1 := fun _ => rfl) (xs := zs) HOI.out.1 (fun _ _ => trivial));have HUN : Aside0 (∀ g, (Value.slice Au zs.length cu).ownBlock = some g → w.heap.size + 6 ≤ g ∧ some g ≠ (Value.slice (some ad) s.2.length co).ownBlock) := ⟨fun g hg => ⟨(HOI.out.1.lt g hg).1, fun e => HSU.out _ HSH.out g hg e⟩⟩;have hzm : ∀ x ∈ zs, ∃ i : Nat, i < l0_1.length ∧ x = (i : Int) := fun x hx => HPM.out a x (by rw [← hzs]; exact hx);have HZM := qa hzm;have hA1 := HA1.out;rw [← hzs] at hA1;have HA2 := qa hA1;have hzl : zs.length ≤ 2000000000 := Nat.le_trans HZL.out HPL.out;clear HA1 hA1 hzs hzm HOI HSU HSH HAT HDA HOWN HKEY HZL hx hco q0 hposz;generalize (Value.slice (some ad) s.2.length co) = vo1 at HI HUN;obtain ⟨wo3, hwo3⟩ : ∃ wo3 : World, wo3 = wr := ⟨_, rfl⟩;subst hwo3;go_loopg [77] zs.length (fun gg v77 w5 => ∃ (m : Nat) (s' : List Int × List Int) (vo' : Value), m ≤ zs.length ∧ zs.length - m ≤ gg ∧ v77 = .int .i64 (m : Int) ∧ Aside0 (FI w a0_0 A0_1 c0_1 l0_1 s' ps vo' w5) ∧ Aside0 (Kd.R (Kd.int .i64) 3 w5 (w.heap.size + 5 + 1) (fun _ => True) (.slice Au zs.length cu) zs) ∧ Aside0 (∀ g, (Value.slice Au zs.length cu).ownBlock = some g → w.heap.size + 6 ≤ g ∧ some g ≠ vo'.ownBlock) ∧ Aside0 (1 ≤ s'.2.length) ∧ Aside0 (foK3 l0_1 ps k1 (inn l0_1 (zs.drop m) s') = some (r1, r2)))
        case atStart => exact ⟨0, s, vo1, Nat.zero_le _, by omega, rfl, HI, HR5, HUN, ⟨hpos⟩, ⟨by rw [List.drop_zero]; exact HA2.out⟩⟩
        case round =>
         clear HI HR5 HUN HA2 hpos HS2;obtain ⟨m, s', vo', hm, hgm, rfl, HI, HR5, HUN, HPO, HA⟩ := hrel;by_cases hltm : m < zs.length
         ·have hltmz : (m : Int) < (zs.length : Int) := (by omega);have hC5 := (Kd.R_reads' HR5.out).2.2;obtain ⟨ad5, e5, hx5⟩ := Kd.at_int hC5 (m : Int) (by omega) hltmz;subst e5;obtain ⟨i5, hi5, hie⟩ := HZM.out zs[m] (List.getElem_mem hltm);have hrd5 : rd zs (m : Int) = (i5 : Int) := (by unfold rd; rw [Int.toNat_natCast, List.getD_eq_getElem?_getD, List.getElem?_eq_getElem hltm]; exact hie);rw [hrd5, Int.toNat_natCast] at hx5;have hcl1 := HCL.out l0_1[i5] (List.getElem_mem hi5);have HCALL := qa (foLookC (w := wr) a0_0 A0_1 c0_1 l0_1 i5 hi5 HI.out.fs HI.out.fb (Kd.C_below HC.out HI.out.hb) (HI.out.si.foOk hcl1) (by have := hcl1.1; omega) hL1 HI.out.si.room _ rfl);have HSL := qa (HI.out.si.look hcl1);have hgetD : l0_1.getD i5 [] = l0_1[i5] := (by rw [List.getD_eq_getElem?_getD, List.getElem?_eq_getElem hi5]; rfl);have hA := HA.out;rw [List.drop_eq_getElem_cons hltm, hie] at hA;simp only [inn] at hA;rw [Int.toNat_natCast, hgetD] at hA;obtain ⟨l, hle⟩ : ∃ l, l0_1[i5] = l := ⟨_, rfl⟩;rw [hle] at HCALL HSL hA;obtain ⟨cf, hcf⟩ : ∃ cf, (foLook s'.1 l 0).2 = cf := ⟨_, rfl⟩;rw [hcf] at HCALL hA;have p7 : ((0 : Int) ≤ (m : Int)) = True := eq_true (by omega);have q7 : ((m : Int) < (zs.length : Int)) = True := eq_true hltmz;clear HA hcf hle hgetD hcl1 hrd5 hie hC5;cases cf with
          | true =>
           rw [if_pos rfl] at hA;simp only [foK3, Option.some.injEq, Prod.mk.injEq] at hA;obtain ⟨rfl, rfl⟩ := hA;go_wp2_with (go_at_call 105; refine (HCALL.out).mono ?_; rintro e w5 ⟨rfl, hp⟩; have HP := qa hp; clear hp)
           go_ret2
           obtain ⟨vo2, q1, q2, q3, q4⟩ := HP.out;exact ⟨_, rfl, Kd.R_nil _ _ _ _ _, HI.out.hb.trans q4⟩
          | false =>
           rw [if_neg (by decide)] at hA;have HA2 := qa hA;clear hA;go_wp2_with (go_at_call 105; refine (HCALL.out).mono ?_; rintro e w5 ⟨rfl, hp⟩; have HP := qa hp; clear hp)
           go_roundg (zs.length - (m + 1));case measure => omega
           case rel =>
            obtain ⟨vo2, q1, q2, q3, q4⟩ := HP.out;refine ⟨m + 1, stL s' l, vo2, by omega, by omega, by go_num, ⟨HI.out.turn (s' := stL s' l) q1 q2 q3 q4 HSL.out⟩, ⟨?_⟩, ⟨fun g hg => ⟨(HUN.out g hg).1, ?_⟩⟩, ⟨Nat.le_trans HPO.out (lookO_len _ _ _)⟩, HA2⟩
            ·refine Kd.R_mono (Kd.R_step (Kd.R_tight rfl HR5.out) (fun g hg hlt => q2.2 g hlt ?_)) (fun _ _ => trivial);have h1 := HUN.out g hg.symm;rintro (e | e | e)
             ·omega
             ·omega
             ·exact h1.2 e
            ·rcases q3 with e | ⟨b, e, hle⟩
             ·rw [e]; exact (HUN.out g hg).2
             ·rw [e];intro e2;injection e2 with e2;have := Kd.R_lt HR5.out g hg;omega
         ·have hltmz : ¬ (m : Int) < (zs.length : Int) := (by omega);have hA := HA.out;rw [List.drop_eq_nil_of_le (by omega)] at hA;have HA2 := qa (show ph3 l0_1 ps k1 (s'.1, s'.2.drop 1) = some (r1, r2) from hA);obtain ⟨Ao, co, evo, hle⟩ := Kd.Q_slice HI.out.fs.hq;subst evo;have hco : wr.cell? ⟨w.heap.size + 4, 0, none⟩ = some (.slice Ao s'.2.length co) := (blk_cell HI.out.fs.ho 0).trans rfl;have hfo : wr.frozen? ⟨w.heap.size + 4, 0, none⟩ = false := blk_frozen HI.out.fs.ho 0;obtain ⟨i0, hi0, _, hsz0, _⟩ := info_parts info3;have hpo1 : (1 : Int) ≤ (s'.2.length : Int) := (by have := HPO.out; omega);have hcut := cut_from (P := Tryz.prog) 35 3 .i64 Tryz.underlying35 hi0 1 hsz0 Ao s'.2.length co 1 (by omega) hpo1;have hqd := Kd.Q_drop (k := 1) HI.out.fs.hq HPO.out;obtain ⟨A1', hA1'⟩ : ∃ A1' : Option Addr, A1' = (if co = 1 then Ao else Ao.map (·.add (1 * 1))) := ⟨_, rfl⟩;have hcut2 : ∀ W : World, (Instr.slice 35 (.slice Ao s'.2.length co) (some (.int .i64 1)) none none).run Tryz.prog W = .ok (.slice A1' (s'.2.length - 1) (co - 1)) W := fun W => by rw [hA1']; exact hcut W
          have hqd2 : Kd.Q (Kd.int .i64) 3 wr w.heap.size (fun k => k ≠ w.heap.size + 1) (.slice A1' (s'.2.length - 1) (co - 1)) (s'.2.drop 1) := (by rw [hA1']; exact hqd);have hoe : (Value.slice A1' (s'.2.length - 1) (co - 1)).ownBlock = (Value.slice Ao s'.2.length co).ownBlock := (by rw [hA1']; split <;> (cases Ao <;> rfl));have HQD := qa hqd2;have HOE := qa hoe;clear hA HA hcut hqd hA1' hqd2 hoe HR5 HUN hi0 hsz0;go_wp2
          go_roundg k1;case measure => omega
          case rel => exact ⟨(s'.1, s'.2.drop 1), _, ⟨HI.out.pop HQD.out HOE.out⟩, HA2⟩
def slices_Index_int.l0 : Nat → List Int → Int → Int → Int → Option (Int)
 | 0, _, _, _, _ => none
 | k + 1, x0, x1, x7, x8 => if x8 < x7 then (if 0 ≤ x8 then (if x8 < (x0.length : Int) then (if x1 = (rd x0 x8) then (some x8) else (slices_Index_int.l0 k x0 x1 x7 (wrap64 (x8 + 1)))) else (none)) else (none)) else (some (-1))
def slices_Index_int.f (k : Nat) (l0 : List Int) (a1 : Int) : Option (Int) := slices_Index_int.l0 k l0 a1 (l0.length : Int) 0
theorem slices_Index_int.mono_l : ∀ k, (∀ y0 y1 y2 y3, LeO (slices_Index_int.l0 k y0 y1 y2 y3) (slices_Index_int.l0 (k + 1) y0 y1 y2 y3))
 | 0 => fun _ _ _ _ r h => by simp [slices_Index_int.l0] at h
 | k + 1 => by
  have ih0 := slices_Index_int.mono_l k
  ·intros;unfold slices_Index_int.l0;exact qM
theorem slices_Index_int.mono : ∀ a0 a1 k, LeO (slices_Index_int.f k a0 a1) (slices_Index_int.f (k + 1) a0 a1) := by
 intro a0 a1 k;have ih0 := slices_Index_int.mono_l k;unfold slices_Index_int.f;exact qM
theorem slices_Index_int.calls (k : Nat) (A0 : Option Addr) (c0 : Nat) (l0 : List Int) (a1 : Int) (r : Int) (w : World) (hr0 : Kd.C (Kd.int .i64) w A0 l0.length l0) (hc0 : l0.length ≤ c0) (h : slices_Index_int.f k l0 a1 = some r) :
  Calls Tryz.prog 77 #[.slice A0 l0.length c0, .int .i64 a1] w fun e w' => e = .returned (.int .i64 r) ∧ Drawn0 w w' := by
 have HR0 := qa hr0;have HC0 := qa hc0;clear hr0 hc0;have H := h;unfold slices_Index_int.f at H;clear h;have H' := qa H;clear H;go_enter Tryz.func77, Tryz.ntmps77
 go_wp2
 go_loopg [8] k (fun kq v8 w' => ∃ (x8_1 : Int), v8 = .int .i64 x8_1 ∧ Aside0 (slices_Index_int.l0 kq l0 a1 (l0.length : Int) x8_1 = some r) ∧ Aside0 (kq ≤ k) ∧ Drawn0 w w')
 case atStart => exact ⟨(0), qS, H', ⟨Nat.le_refl _⟩, qT⟩
 case round =>
  clear H';obtain ⟨x8_1, rfl, HA, HK1, ⟨m1, rfl⟩⟩ := hrel;cases gk with
  | zero => exact absurd HA.out (by simp [slices_Index_int.l0])
  | succ k1 =>
   have H := HA.out;clear HA;simp only [slices_Index_int.l0] at H;by_cases c3 : x8_1 < (l0.length : Int)
   ·rw [if_pos c3] at H;have c3b0 := decide_eq_true c3;clear c3;obtain ⟨c4, H⟩ := qI H;have c4b0 : decide (0 ≤ x8_1) = true := decide_eq_true c4;clear c4;obtain ⟨c5, H⟩ := qI H;have c5b0 : decide (x8_1 < (l0.length : Int)) = true := decide_eq_true c5;clear c5;by_cases c6 : a1 = (rd l0 x8_1)
    ·rw [if_pos c6] at H;obtain ⟨c6b0, c6b1⟩ := qb1 c6;clear c6;obtain rfl := Option.some.inj H;have p497 : 0 ≤ (x8_1 : Int) := qD;have q497 : x8_1 < (l0.length : Int) := qD;obtain ⟨ad497, e497, hx497_0⟩ := Kd.at_int HR0.out x8_1 p497 q497;cases e497;replace p497 := eq_true p497;replace q497 := eq_true q497;go_wp2
     go_ret
     exact ⟨qS, qT⟩
    ·rw [if_neg c6] at H;obtain ⟨c6b0, c6b1⟩ := qb0 c6;have H' := qa H;clear H;have p497 : 0 ≤ (x8_1 : Int) := qD;have q497 : x8_1 < (l0.length : Int) := qD;obtain ⟨ad497, e497, hx497_0⟩ := Kd.at_int HR0.out x8_1 p497 q497;cases e497;replace p497 := eq_true p497;replace q497 := eq_true q497;go_wp2
     go_roundg k1;case measure => have := HK1.out; omega
     case rel => exact ⟨(wrap64 (x8_1 + 1)), qS, H', ⟨by have := HK1.out; omega⟩, qT⟩
   ·rw [if_neg c3] at H;have c3b0 := decide_eq_false c3;clear c3;obtain rfl := Option.some.inj H;go_wp2
    go_ret
    exact ⟨qS, qT⟩
end Go.Proofs.YtgdmdaalmoioeaaGreat.X
