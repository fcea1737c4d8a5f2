/- What an argument that reads as data gives: a list or record of plain values whose cells lie in memory so. Conditions: the type's own row of the program's table. -/
import Derived.Test.YtgdmdaalmoioeaaGreatWWords
import Derived.ProofKit
import Derived.ChangeArms
import Derived.DataReads
import Derived.WideShapes
import Derived.DataElems
namespace Go.Proofs.YtgdmdaalmoioeaaGreat.Open
open Go.RowKit Go.Proofs.YtgdmdaalmoioeaaGreatW.PrintWords

/-- Whatever is read at this type is a plain value, laid in its cells, of which wf holds. -/
def Opens (P : Program) {α : Type} (d : Kd α) (wf : α → Prop) (t : TypeId) : Prop :=
  ∀ {H : Type} {enc : TypeId × Value → H} {w : World} {base : Nat} {spare : Nat → Bool} {held : Bool} {fuel : Nat} {cs : List Value} {x : DataW H × List MemPlace},
    DataW.trod enc P w base spare held fuel t cs = some x → ∃ a : α, d.K w a cs ∧ wf a
variable {P : Program}
theorem opens_int {t : TypeId} {k : IntKind} (ht : P.underlying t = some (.int k)) : Opens P (Kd.int k) (fun n => (Lit.int k n).wf = true) t := fun h => by
  obtain ⟨n, rfl, _, hw⟩ := DataW.trod_int ht h
  exact ⟨n, rfl, hw⟩
theorem exists_list {α : Type} {n : Nat} {p : Nat → α → Prop} (h : ∀ i, i < n → ∃ x, p i x) : ∃ l : List α, l.length = n ∧ ∀ i x, l[i]? = some x → p i x := by
  induction n with
  | zero => exact ⟨[], rfl, fun i x hx => by simp at hx⟩
  | succ n ih =>
    obtain ⟨l, hl, hp⟩ := ih fun i hi => h i (by omega)
    obtain ⟨x, hx⟩ := h n (by omega)
    refine ⟨l ++ [x], by simp [hl], fun i y hy => ?_⟩
    by_cases hi : i < n
    · rw [List.getElem?_append_left (by omega)] at hy
      exact hp i y hy
    · rw [List.getElem?_append_right (by omega)] at hy
      have : i - l.length = 0 := by
        rcases Nat.eq_zero_or_pos (i - l.length) with h0 | h0
        · exact h0
        · rw [List.getElem?_eq_none (by simp; omega)] at hy; cases hy
      rw [this] at hy
      obtain rfl : i = n := by omega
      obtain rfl : x = y := by simpa using hy
      exact hx
theorem opens_slice {α : Type} {d : Kd α} {wf : α → Prop} {t e : TypeId} (ht : P.underlying t = some (.slice e)) (hc : P.cellsOf e = d.sz) (he : Opens P d wf e) :
    Opens P (Kd.slice e d) (fun l => l.length ≤ maxLen ∧ ∀ x ∈ l, wf x) t := fun {_ _ w} _ _ _ _ _ _ h => by
  rcases DataW.trod_slice ht h with ⟨rfl, _⟩ | ⟨a, len, cap, elems, rest, n, _, rfl, _, hb, hl, hm, hlen, hel, _⟩
  · exact ⟨[], ⟨none, 0, rfl, Nat.le_refl _, rfl, by simp, fun h => absurd h (by simp)⟩, by simp, fun x hx => absurd hx (by simp)⟩
  · have hex : ∀ i, i < len → ∃ x : α, wf x ∧ ∃ c, c.length = d.sz ∧ d.K w x c ∧ ∀ j u, c[j]? = some u → w.cell? (a.add (i * d.sz + j)) = some u := by
      intro i hi
      have h1 := hel i hi
      rw [List.getElem?_eq_getElem (by omega), Option.bind_eq_some_iff] at h1
      obtain ⟨cs', hcs, htr⟩ := h1
      obtain ⟨x, hK, hw⟩ := he htr
      obtain ⟨_, hlc, hcell⟩ := World.cells?_some hcs
      refine ⟨x, hw, cs', d.K_len hK, hK, fun j u hj => ?_⟩
      have hj' : j < P.cellsOf e := by
        rcases Nat.lt_or_ge j cs'.length with h | h
        · omega
        · rw [List.getElem?_eq_none h] at hj; cases hj
      have h2 := hcell j hj'
      rw [hc, Addr.add_add] at h2
      rw [h2, hj]
    obtain ⟨l, hll, hlp⟩ := exists_list hex
    refine ⟨l, ⟨some a, cap, by rw [hll], by omega, rfl, by simp only [maxLen] at hm; omega, fun _ => ⟨a, rfl, fun j p hj => (hlp j p hj).2⟩⟩, by omega, fun x hx => ?_⟩
    obtain ⟨i, hi, rfl⟩ := List.getElem_of_mem hx
    exact (hlp i _ (List.getElem?_eq_getElem hi)).1
/-- One field of one cell of a record. -/
theorem field_at {H : Type} {enc : TypeId × Value → H} {w : World} {base : Nat} {spare : Nat → Bool} {held : Bool} {n t o m i : Nat} {cs : List Value} {c : Value} {xs : List (DataW H × List MemPlace)}
    (h : DataW.trod enc P w base spare held n t ((cs.drop o).take m) = xs[i]?) (hm : m = 1) (hc : (cs.drop o).take 1 = [c]) (hi : i < xs.length) : ∃ y, DataW.trod enc P w base spare held n t [c] = some y := by
  subst hm
  rw [hc, List.getElem?_eq_getElem hi] at h
  exact ⟨_, h⟩
end Go.Proofs.YtgdmdaalmoioeaaGreat.Open
