/- The law on RunCircuit: both sides read the wires that go out. Conditions: those of the laws' own Pure. -/
import Derived.Test.YtimkjhdopncimaaWires
import Derived.Test.YtimkjhdopncimaaX21
import Derived.Test.YtimkjhdopncimaaX22
namespace Go.Proofs.Ytimkjhdopncimaa.Pure
open Go.RowKit Go.Proofs.Ytimkjhdopncimaa.X Go.Proofs.YtimkjhdopncimaaW.PrintWords Go.Proofs.YtimkjhdopncimaaW.PrintLast Go.Proofs.YtimkjhdopncimaaW.PrintMore Go.Proofs.Ytimkjhdopncimaa.Bits
/-- The wires that go out. -/
def outsR (n : Int) (g : List Gt) (o : List Int) (ins : List Bool) : List Bool × Bool :=
  if okCirc n g o = true ∧ (ins.length : Int) = n then (o.map (rdOf false (runW g ins)), true) else ([], false)
theorem outsR_len (n : Int) (g : List Gt) (o : List Int) (ins : List Bool) : (outsR n g o ins).1.length ≤ 400 := by
  unfold outsR
  split
  · rename_i h
    obtain ⟨h1, h2, h3, h4, h5, h6⟩ := okCirc_is h.1
    simp only [List.length_map]; omega
  · simp
theorem outs_spec_loop (all : List Bool) (o : List Int) (ho : o.length ≤ 16) (h : o.all (below (all.length : Int)) = true) (d : Nat) : ∀ (i k : Nat), i + d = o.length → d < k →
    spec_RunCircuit.l0 k all ((o.take i).map (rdOf false all)) o (o.length : Int) (i : Int) = some (o.map (rdOf false all), true) := by
  induction d with
  | zero =>
    intro i k hi hk
    obtain ⟨k, rfl⟩ : ∃ m, k = m + 1 := ⟨k - 1, by omega⟩
    simp only [spec_RunCircuit.l0]
    rewrite [if_neg (by omega), List.take_of_length_le (by omega)]; rfl
  | succ d ih =>
    intro i k hi hk
    obtain ⟨k, rfl⟩ : ∃ m, k = m + 1 := ⟨k - 1, by omega⟩
    have hit : i < o.length := by omega
    have e1 : wrap64 ((i : Int) + 1) = ((i + 1 : Nat) : Int) := by rw [wrap64_id _ (by omega) (by omega)]; omega
    have hb := below_is (List.all_eq_true.1 h o[i] (List.getElem_mem hit))
    have e2 : (o.take i).map (rdOf false all) ++ [rdOf false all o[i]] = (o.take (i + 1)).map (rdOf false all) := by
      rw [List.take_add_one, List.getElem?_eq_getElem hit, Option.toList_some, List.map_append]; rfl
    simp only [spec_RunCircuit.l0]
    rewrite [if_pos (by omega), if_pos (by omega), if_pos (by omega), rdInt_at hit, if_pos hb.1, if_pos hb.2, if_pos (by rw [List.length_map, List.length_take]; omega), e1, e2]
    exact ih (i + 1) k (by omega) (by omega)
theorem outs_impl_loop (all : List Bool) (o : List Int) (ho : o.length ≤ 16) (h : o.all (below (all.length : Int)) = true) (d : Nat) : ∀ (i k : Nat), i + d = o.length → d < k →
    impl_RunCircuit.l0 k all ((o.take i).map (rdOf false all)) o (o.length : Int) (i : Int) = some (o.map (rdOf false all), true) := by
  induction d with
  | zero =>
    intro i k hi hk
    obtain ⟨k, rfl⟩ : ∃ m, k = m + 1 := ⟨k - 1, by omega⟩
    simp only [impl_RunCircuit.l0]
    rewrite [if_neg (by omega), List.take_of_length_le (by omega)]; rfl
  | succ d ih =>
    intro i k hi hk
    obtain ⟨k, rfl⟩ : ∃ m, k = m + 1 := ⟨k - 1, by omega⟩
    have hit : i < o.length := by omega
    have e1 : wrap64 ((i : Int) + 1) = ((i + 1 : Nat) : Int) := by rw [wrap64_id _ (by omega) (by omega)]; omega
    have hb := below_is (List.all_eq_true.1 h o[i] (List.getElem_mem hit))
    have e2 : (o.take i).map (rdOf false all) ++ [rdOf false all o[i]] = (o.take (i + 1)).map (rdOf false all) := by
      rw [List.take_add_one, List.getElem?_eq_getElem hit, Option.toList_some, List.map_append]; rfl
    simp only [impl_RunCircuit.l0]
    rewrite [if_pos (by omega), if_pos (by omega), if_pos (by omega), rdInt_at hit, if_pos hb.1, if_pos hb.2, if_pos (by rw [List.length_map, List.length_take]; omega), e1, e2]
    exact ih (i + 1) k (by omega) (by omega)
theorem RunCircuit_both (n : Int) (g : List Gt) (o : List Int) (ins : List Bool) (k : Nat) (hk : 400 < k) : spec_RunCircuit.f k n g o ins = some (outsR n g o ins) ∧ impl_RunCircuit.f k n g o ins = some (outsR n g o ins) := by
  unfold spec_RunCircuit.f impl_RunCircuit.f
  rewrite [(AllWires_both n g o ins k hk).1, (AllWires_both n g o ins k hk).2]
  unfold wiresR outsR
  simp only [Option.bind_some]
  by_cases h : okCirc n g o = true ∧ (ins.length : Int) = n
  · rewrite [if_pos h, if_pos h]
    obtain ⟨h1, h2, h3, h4, h5, h6⟩ := okCirc_is h.1
    have hl : n + (g.length : Int) = ((runW g ins).length : Int) := by rw [runW_len]; omega
    rw [hl] at h6
    have a := outs_spec_loop (runW g ins) o h4 h6 o.length 0 k (by omega) (by omega)
    have b := outs_impl_loop (runW g ins) o h4 h6 o.length 0 k (by omega) (by omega)
    simp only [List.take_zero, List.map_nil, Int.natCast_zero] at a b
    rewrite [if_pos rfl, if_pos rfl]
    exact ⟨a, b⟩
  · rewrite [if_neg h, if_neg h]
    exact ⟨rfl, rfl⟩
theorem FnExactRunCircuit : laws_FnExactRunCircuit.Pure := by
  intro n g o ins _ hg ho hi
  have hgl := hg.1
  have hol := ho.1
  have hil := hi.1
  simp only [maxLen] at hgl hol hil
  refine ⟨g.length + o.length + ins.length + 2000 + 3, ?_⟩
  obtain ⟨q, hq⟩ : ∃ q, g.length + o.length + ins.length + 2000 = q := ⟨_, rfl⟩
  rw [hq]
  unfold laws_FnExactRunCircuit.f
  by_cases hb : (ins.length : Int) > 1048576
  · rw [if_pos hb]
  · rewrite [if_neg hb, szCircuit_val n g o hgl hol]
    simp only [Option.bind_some]
    by_cases hs : g.length + o.length ≤ 1048576
    · have hgc : (g.map convGate).length = g.length := List.length_map ..
      have hmk : ∀ k, q < k + 3 → laws_markCircuit.f k n (g.map convGate) o 1 = some (1 + 3 * ((g.map convGate).length : Int) + 1 * (o.length : Int), mkGate 1 (g.map convGate).length, mkInt (1 + 3 * ((g.map convGate).length : Int)) o.length) := fun k hk => markCircuit_val k 1 n (by omega) (by omega) (g.map convGate) o (by omega) (by omega)
      rewrite [if_pos hs, if_neg (by omega), toCircuit_val _ n g o hs (by omega)]
      simp only [Option.bind_some]
      rewrite [toBool_val _ ins (by omega) (by omega)]
      simp only [Option.bind_some]
      rewrite [(RunCircuit_both n (g.map convGate) o ins _ (by omega)).1]
      simp only [Option.bind_some]
      rewrite [(RunCircuit_both n (g.map convGate) o ins _ (by omega)).2]
      obtain ⟨r, b, hres⟩ : ∃ r b, outsR n (g.map convGate) o ins = (r, b) := ⟨_, _, rfl⟩
      have hr := outsR_len n (g.map convGate) o ins
      rw [hres] at hr
      simp only at hr
      simp only [hres, Option.bind_some]
      rewrite [eqBool_val _ r (by omega) (by omega)]
      have hbb : (b != b) = false := by simp
      simp only [Option.bind_some, if_true, laws_FnExactRunCircuit.j0, hbb, Bool.false_eq_true, if_false]
      rewrite [toCircuit_val _ n g o hs (by omega)]
      simp only [Option.bind_some]
      rewrite [eqCircuit_val _ n _ o (by omega) (by omega)]
      simp only [Option.bind_some, if_true]
      rewrite [toBool_val _ ins (by omega) (by omega)]
      simp only [Option.bind_some]
      rewrite [eqBool_val _ ins (by omega) (by omega)]
      simp only [Option.bind_some, if_true]
      rewrite [hmk _ (by omega)]
      simp only [Option.bind_some, hgc]
      rewrite [markBool_val _ _ (by omega) (by omega) ins (by omega) (by omega)]
      simp only [Option.bind_some]
      rewrite [if_neg (by omega), eqBool_val _ r (by omega) (by omega)]
      simp only [Option.bind_some, if_true, laws_FnExactRunCircuit.j1, Bool.false_eq_true, if_false]
      rewrite [markBool_val _ 1 (by omega) (by omega) r (by omega) (by omega)]
      simp only [Option.bind_some]
      rewrite [heldBool_val _ 1 (by omega) (by omega) r.length (by omega) (by omega)]
      simp only [Option.bind_some]
      rewrite [if_neg (by omega), toCircuit_val _ n g o hs (by omega)]
      simp only [Option.bind_some, if_true]
      rewrite [toBool_val _ ins (by omega) (by omega)]
      simp only [Option.bind_some]
      rewrite [(RunCircuit_both n (g.map convGate) o ins _ (by omega)).2, hres]
      simp only [Option.bind_some]
      rewrite [eqBool_val _ r (by omega) (by omega)]
      simp only [Option.bind_some, if_true, laws_FnExactRunCircuit.j2, hbb, Bool.false_eq_true, if_false]
      rewrite [heldBool_val _ 1 (by omega) (by omega) r.length (by omega) (by omega)]
      simp only [Option.bind_some]
      rewrite [if_neg (by omega)]
      rfl
    · rewrite [if_neg hs, if_pos (by decide)]; rfl
end Go.Proofs.Ytimkjhdopncimaa.Pure
