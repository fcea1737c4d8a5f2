/- Good terms as trees: a list of nodes that the stack of kinds takes is a tree's nodes in order; a run over a stack of values comes to the tree's own value. Conditions: none beyond those named. -/
import Derived.Test.YthageckjjbgonaaNodes
namespace Go.Proofs.Ythageckjjbgonaa.Pure
open Go.RowKit Go.Proofs.Ythageckjjbgonaa.X Go.Proofs.YthageckjjbgonaaW.PrintWords Go.Proofs.YthageckjjbgonaaW.PrintLast Go.Proofs.Ythageckjjbgonaa.Bits

inductive Tr where
  | leaf (x : Nd) : Tr
  | one (x : Nd) (a : Tr) : Tr
  | two (x : Nd) (a b : Tr) : Tr
def Tr.flat : Tr → List Nd
  | .leaf x => [x]
  | .one x a => a.flat ++ [x]
  | .two x a b => a.flat ++ (b.flat ++ [x])
def Tr.root : Tr → Nd
  | .leaf x => x
  | .one x _ => x
  | .two x _ _ => x
/-- A tree whose nodes fit, of a kind. -/
def Tr.good (w v : Int) : Tr → Int → Prop
  | .leaf x, k => (need x.f0).1 = 0 ∧ (need x.f0).2.2 = k ∧ k ≠ 0 ∧ leafB w v x = true
  | .one x a, k => (need x.f0).1 = 1 ∧ (need x.f0).2.2 = k ∧ k ≠ 0 ∧ leafB w v x = true ∧ a.good w v (need x.f0).2.1
  | .two x a b, k => (need x.f0).1 = 2 ∧ (need x.f0).2.2 = k ∧ k ≠ 0 ∧ leafB w v x = true ∧ a.good w v (need x.f0).2.1 ∧ b.good w v (need x.f0).2.1
def flats : List Tr → List Nd
  | [] => []
  | f :: r => flats r ++ f.flat
def goods (w v : Int) : List Tr → List Int → Prop
  | [], [] => True
  | f :: r, k :: s => f.good w v k ∧ goods w v r s
  | _, _ => False
theorem goods_step (w v : Int) (x : Nd) (fs : List Tr) (st st' : List Int) (hg : goods w v fs st) (h : stepK w v st x = some st') :
    ∃ fs', goods w v fs' st' ∧ flats fs' = flats fs ++ [x] := by
  obtain ⟨m, p, r, hn, b0, b1, b2, b3, b4, b5⟩ := need_is x.f0
  unfold stepK at h
  rw [hn] at h
  simp only at h
  split at h
  · cases h
  · rename_i hr
    split at h
    · rename_i hl
      split at h
      · cases h
      · rename_i hlen
        split at h
        · rename_i hall
          obtain rfl := Option.some.inj h
          have hm : m = 0 ∨ m = 1 ∨ m = 2 := by omega
          rcases hm with rfl | rfl | rfl
          · exact ⟨.leaf x :: fs, ⟨⟨by rw [hn], by rw [hn], hr, hl⟩, hg⟩, rfl⟩
          · match fs, st, hg with
            | [], [], _ => exact absurd hlen (by simp)
            | a :: fs, s :: st, hg =>
              have hs : s = p := by simpa using hall
              subst hs
              exact ⟨.one x a :: fs, ⟨⟨by rw [hn], by rw [hn], hr, hl, by rw [hn]; exact hg.1⟩, hg.2⟩, by simp [flats, Tr.flat]⟩
          · match fs, st, hg with
            | [], [], _ => exact absurd hlen (by simp)
            | [_], [_], _ => exact absurd hlen (by simp)
            | b :: a :: fs, s :: s2 :: st, hg =>
              have hs : s = p ∧ s2 = p := by simpa using hall
              obtain ⟨rfl, rfl⟩ := hs
              exact ⟨.two x a b :: fs, ⟨⟨by rw [hn], by rw [hn], hr, hl, by rw [hn]; exact hg.2.1, by rw [hn]; exact hg.1⟩, hg.2.2⟩, by simp [flats, Tr.flat]⟩
        · cases h
    · cases h
theorem goods_run (w v : Int) (t : List Nd) : ∀ (fs : List Tr) (st st' : List Int), goods w v fs st → runK w v t st = some st' → ∃ fs', goods w v fs' st' ∧ flats fs' = flats fs ++ t := by
  induction t with
  | nil =>
    intro fs st st' hg h
    simp only [runK, Option.some.injEq] at h
    subst h
    exact ⟨fs, hg, by simp⟩
  | cons x t ih =>
    intro fs st st' hg h
    simp only [runK, Option.bind_eq_some_iff] at h
    obtain ⟨s1, h1, h2⟩ := h
    obtain ⟨f1, hg1, hf1⟩ := goods_step w v x fs st s1 hg h1
    obtain ⟨f2, hg2, hf2⟩ := ih f1 s1 st' hg1 h2
    exact ⟨f2, hg2, by rw [hf2, hf1]; simp⟩
/-- A good term is a tree's nodes. -/
theorem kind_tree (w v : Int) (t : List Nd) (h : kindT w v t > 0) : ∃ tr : Tr, tr.good w v (kindT w v t) ∧ tr.flat = t := by
  unfold kindT at h ⊢
  split at h
  · rename_i hc
    rw [if_pos hc]
    cases hr : runK w v t [] with
    | none => rw [hr] at h; exact absurd h (by decide)
    | some st =>
      rw [hr] at h
      obtain ⟨fs, hg, hf⟩ := goods_run w v t [] [] st trivial hr
      match st, fs, hg, h with
      | [k], [f], hg, _ => exact ⟨f, hg.1, by simpa [flats] using hf⟩
      | [], _, _, h => exact absurd h (by simp [top])
      | a :: b :: s, _, _, h => exact absurd h (by simp [top])
  · exact absurd h (by decide)
theorem flat_pos (tr : Tr) : 0 < tr.flat.length := by cases tr <;> simp [Tr.flat] <;> omega
/-- A run over a stack. -/
def runS {β : Type} (step : Nd → List β → Option (List β)) : List Nd → List β → Option (List β)
  | [], st => some st
  | x :: t, st => (step x st).bind (runS step t)
theorem runS_append {β : Type} (step : Nd → List β → Option (List β)) (t u : List Nd) : ∀ st, runS step (t ++ u) st = (runS step t st).bind (runS step u) := by
  induction t with
  | nil => intro st; rfl
  | cons x t ih =>
    intro st
    simp only [List.cons_append, runS, Option.bind_assoc]
    congr 1
    funext s
    exact ih s
theorem runS_tree {β : Type} (w v : Int) (step : Nd → List β → Option (List β)) (ev : Tr → β)
    (h0 : ∀ x st k, (Tr.leaf x).good w v k → step x st = some (ev (.leaf x) :: st))
    (h1 : ∀ x a st k, (Tr.one x a).good w v k → step x (ev a :: st) = some (ev (.one x a) :: st))
    (h2 : ∀ x a b st k, (Tr.two x a b).good w v k → step x (ev b :: ev a :: st) = some (ev (.two x a b) :: st))
    (tr : Tr) : ∀ st k, tr.good w v k → runS step tr.flat st = some (ev tr :: st) := by
  induction tr with
  | leaf x =>
    intro st k h
    simp only [Tr.flat, runS, h0 x st k h, Option.bind_some]
  | one x a iha =>
    intro st k h
    rw [Tr.flat, runS_append, iha st _ h.2.2.2.2]
    simp only [Option.bind_some, runS, h1 x a st k h]
  | two x a b iha ihb =>
    intro st k h
    rw [Tr.flat, runS_append, iha st _ h.2.2.2.2.1]
    simp only [Option.bind_some]
    rw [runS_append, ihb _ _ h.2.2.2.2.2]
    simp only [Option.bind_some, runS, h2 x a b st k h]
/-- A tree whose nodes stand in a list from a place on. -/
def stands (t : List Nd) (lo : Nat) (tr : Tr) : Prop := ∃ pre post, t = pre ++ (tr.flat ++ post) ∧ pre.length = lo
theorem stands_all (tr : Tr) : stands tr.flat 0 tr := ⟨[], [], by simp, rfl⟩
theorem stands_one {t : List Nd} {lo : Nat} {x : Nd} {a : Tr} (h : stands t lo (.one x a)) : stands t lo a := by
  obtain ⟨pre, post, rfl, hl⟩ := h
  exact ⟨pre, [x] ++ post, by simp [Tr.flat], hl⟩
theorem stands_two {t : List Nd} {lo : Nat} {x : Nd} {a b : Tr} (h : stands t lo (.two x a b)) : stands t lo a ∧ stands t (lo + a.flat.length) b := by
  obtain ⟨pre, post, rfl, hl⟩ := h
  exact ⟨⟨pre, b.flat ++ [x] ++ post, by simp [Tr.flat], hl⟩, ⟨pre ++ a.flat, [x] ++ post, by simp [Tr.flat], by simp [hl]⟩⟩
theorem stands_len {t : List Nd} {lo : Nat} {tr : Tr} (h : stands t lo tr) : lo + tr.flat.length ≤ t.length := by
  obtain ⟨pre, post, rfl, hl⟩ := h
  simp; omega
theorem flat_root (tr : Tr) : ∃ u, tr.flat = u ++ [tr.root] := by
  cases tr with
  | leaf x => exact ⟨[], rfl⟩
  | one x a => exact ⟨a.flat, rfl⟩
  | two x a b => exact ⟨a.flat ++ b.flat, by simp [Tr.flat, Tr.root]⟩
theorem stands_root {t : List Nd} {lo : Nat} {tr : Tr} (h : stands t lo tr) : t[lo + tr.flat.length - 1]? = some tr.root := by
  obtain ⟨pre, post, rfl, hl⟩ := h
  obtain ⟨u, hu⟩ := flat_root tr
  subst hl
  have hul : tr.flat.length = u.length + 1 := by rw [hu]; simp
  rw [hul, hu, show pre.length + (u.length + 1) - 1 = pre.length + u.length by omega, List.getElem?_append_right (by omega), Nat.add_sub_cancel_left, List.append_assoc, List.getElem?_append_right (by omega), Nat.sub_self]
  rfl
theorem stands_rd {t : List Nd} {lo : Nat} {tr : Tr} (h : stands t lo tr) (i : Int) (hi : i = (lo : Int) + tr.flat.length - 1) : rd_T47 t i = tr.root := by
  have hp := flat_pos tr
  have hl := stands_len h
  obtain rfl : i = ((lo + tr.flat.length - 1 : Nat) : Int) := by omega
  have h2 := stands_root h
  rw [List.getElem?_eq_getElem (by omega)] at h2
  rw [rd_at (by omega)]
  exact Option.some.inj h2
theorem good_need {w v k : Int} {tr : Tr} (h : tr.good w v k) : (need tr.root.f0).2.2 = k ∧ k ≠ 0 ∧ leafB w v tr.root = true := by
  cases tr with
  | leaf x => exact ⟨h.2.1, h.2.2.1, h.2.2.2⟩
  | one x a => exact ⟨h.2.1, h.2.2.1, h.2.2.2.1⟩
  | two x a b => exact ⟨h.2.1, h.2.2.1, h.2.2.2.1⟩
end Go.Proofs.Ythageckjjbgonaa.Pure
