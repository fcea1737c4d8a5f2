/- The law on AllWires. Conditions: those of the laws' own Pure. -/
import Derived.Test.YtimkjhdopncimaaWires
import Derived.Test.YtimkjhdopncimaaX20
namespace Go.Proofs.Ytimkjhdopncimaa.Pure
open Go.RowKit Go.Proofs.Ytimkjhdopncimaa.X Go.Proofs.YtimkjhdopncimaaW.PrintWords Go.Proofs.YtimkjhdopncimaaW.PrintLast Go.Proofs.YtimkjhdopncimaaW.PrintMore Go.Proofs.Ytimkjhdopncimaa.Bits
theorem FnExactAllWires : laws_FnExactAllWires.Pure := by
  intro n g o ins _ hg ho hi
  have hgl := hg.1
  have hol := ho.1
  have hil := hi.1
  simp only [maxLen] at hgl hol hil
  refine ⟨g.length + o.length + ins.length + 2000 + 3, ?_⟩
  obtain ⟨q, hq⟩ : ∃ q, g.length + o.length + ins.length + 2000 = q := ⟨_, rfl⟩
  rw [hq]
  unfold laws_FnExactAllWires.f
  by_cases hb : (ins.length : Int) > 1048576
  · rw [if_pos hb]
  · rewrite [if_neg hb, szCircuit_val n g o hgl hol]
    simp only [Option.bind_some]
    by_cases hs : g.length + o.length ≤ 1048576
    · have hgc : (g.map convGate).length = g.length := List.length_map ..
      have hmk : ∀ k, q < k + 3 → laws_markCircuit.f k n (g.map convGate) o 1 = some (1 + 3 * ((g.map convGate).length : Int) + 1 * (o.length : Int), mkGate 1 (g.map convGate).length, mkInt (1 + 3 * ((g.map convGate).length : Int)) o.length) := fun k hk => markCircuit_val k 1 n (by omega) (by omega) (g.map convGate) o (by omega) (by omega)
      rewrite [if_pos hs, if_neg (by omega), toCircuit_val _ n g o hs (by omega)]
      simp only [Option.bind_some]
      rewrite [toBool_val _ ins (by omega) (by omega)]
      simp only [Option.bind_some]
      rewrite [(AllWires_both n (g.map convGate) o ins _ (by omega)).1]
      simp only [Option.bind_some]
      rewrite [(AllWires_both n (g.map convGate) o ins _ (by omega)).2]
      obtain ⟨r, b, hres⟩ : ∃ r b, wiresR n (g.map convGate) o ins = (r, b) := ⟨_, _, rfl⟩
      have hr := wiresR_len n (g.map convGate) o ins
      rw [hres] at hr
      simp only at hr
      simp only [hres, Option.bind_some]
      rewrite [eqBool_val _ r (by omega) (by omega)]
      have hbb : (b != b) = false := by simp
      simp only [Option.bind_some, if_true, laws_FnExactAllWires.j0, hbb, Bool.false_eq_true, if_false]
      rewrite [toCircuit_val _ n g o hs (by omega)]
      simp only [Option.bind_some]
      rewrite [eqCircuit_val _ n _ o (by omega) (by omega)]
      simp only [Option.bind_some, if_true]
      rewrite [toBool_val _ ins (by omega) (by omega)]
      simp only [Option.bind_some]
      rewrite [eqBool_val _ ins (by omega) (by omega)]
      simp only [Option.bind_some, if_true]
      rewrite [hmk _ (by omega)]
      simp only [Option.bind_some, hgc]
      rewrite [markBool_val _ _ (by omega) (by omega) ins (by omega) (by omega)]
      simp only [Option.bind_some]
      rewrite [if_neg (by omega), eqBool_val _ r (by omega) (by omega)]
      simp only [Option.bind_some, if_true, laws_FnExactAllWires.j1, Bool.false_eq_true, if_false]
      rewrite [markBool_val _ 1 (by omega) (by omega) r (by omega) (by omega)]
      simp only [Option.bind_some]
      rewrite [heldBool_val _ 1 (by omega) (by omega) r.length (by omega) (by omega)]
      simp only [Option.bind_some]
      rewrite [if_neg (by omega), toCircuit_val _ n g o hs (by omega)]
      simp only [Option.bind_some, if_true]
      rewrite [toBool_val _ ins (by omega) (by omega)]
      simp only [Option.bind_some]
      rewrite [(AllWires_both n (g.map convGate) o ins _ (by omega)).2, hres]
      simp only [Option.bind_some]
      rewrite [eqBool_val _ r (by omega) (by omega)]
      simp only [Option.bind_some, if_true, laws_FnExactAllWires.j2, hbb, Bool.false_eq_true, if_false]
      rewrite [heldBool_val _ 1 (by omega) (by omega) r.length (by omega) (by omega)]
      simp only [Option.bind_some]
      rewrite [if_neg (by omega)]
      rfl
    · rewrite [if_neg hs, if_pos (by decide)]; rfl
end Go.Proofs.Ytimkjhdopncimaa.Pure
