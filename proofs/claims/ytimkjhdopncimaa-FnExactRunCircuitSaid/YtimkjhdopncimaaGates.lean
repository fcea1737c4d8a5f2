/- The law over circuits' validity: both sides come to one plain test. Conditions: a circuit of this machine's word. -/
import Derived.Test.YtimkjhdopncimaaListsD
import Derived.Test.YtimkjhdopncimaaX1
import Derived.Test.YtimkjhdopncimaaX10
import Derived.Test.YtimkjhdopncimaaX13
import Derived.Test.YtimkjhdopncimaaX2
import Derived.Test.YtimkjhdopncimaaX4
import Derived.Test.YtimkjhdopncimaaX5
import Derived.Test.YtimkjhdopncimaaX7
import Derived.Test.YtimkjhdopncimaaX8
namespace Go.Proofs.Ytimkjhdopncimaa.Pure
open Go.RowKit Go.Proofs.Ytimkjhdopncimaa.X Go.Proofs.YtimkjhdopncimaaW.PrintWords Go.Proofs.YtimkjhdopncimaaW.PrintLast Go.Proofs.YtimkjhdopncimaaW.PrintMore Go.Proofs.Ytimkjhdopncimaa.Bits
abbrev Gt := S59
/-- A wire's number below a bound. -/
def below (w x : Int) : Bool := decide (0 ≤ x) && decide (x < w)
/-- A gate that may have the wire w. -/
def okGate (w : Int) (g : Gt) : Bool :=
  if g.f0 = 1 then below 2 g.f1 && decide (g.f2 = 0)
  else if g.f0 = 2 then below w g.f1 && decide (g.f2 = 0)
  else if 3 ≤ g.f0 ∧ g.f0 ≤ 5 then below w g.f1 && below w g.f2 else false
def okGates : Int → List Gt → Bool
  | _, [] => true
  | w, g :: r => okGate w g && okGates (w + 1) r
def okCirc (n : Int) (g : List Gt) (o : List Int) : Bool :=
  decide (0 ≤ n ∧ n ≤ 16 ∧ g.length ≤ 300 ∧ o.length ≤ 16) && (okGates n g && o.all (below (n + (g.length : Int))))
theorem offWire_eq (w x : Int) : offWire w x = !below w x := by
  unfold offWire below
  by_cases h : x < 0
  · rw [decide_eq_true h, decide_eq_false (show ¬ (0 ≤ x) by omega)]; rfl
  · rw [decide_eq_false h, decide_eq_true (show 0 ≤ x by omega)]
    by_cases h2 : x < w
    · rw [decide_eq_true h2, decide_eq_false (show ¬ (w ≤ x) by omega)]; rfl
    · rw [decide_eq_false h2, decide_eq_true (show w ≤ x by omega)]; rfl
theorem l1In_below (x w : Int) : spec_l1In.f x 0 (w - 1) = some (below w x) := by
  unfold spec_l1In.f below
  by_cases h : x ≥ 0
  · rw [if_pos h, decide_eq_true (show 0 ≤ x from h), Bool.true_and]
    congr 1
    exact decide_eq_decide.mpr (by omega)
  · rw [if_neg h, decide_eq_false (show ¬ (0 ≤ x) from h)]; rfl
theorem wiresBelow_val (l : List Int) (w : Int) : impl_areWiresBelow.f l w = some (l.all (below w)) := by
  unfold impl_areWiresBelow.f impl_areWiresBelow_any.f
  simp only [Option.bind_some]
  congr 1
  induction l with
  | nil => rfl
  | cons x t ih =>
    rw [List.any_cons, List.all_cons, Bool.not_or, ih, offWire_eq, Bool.not_not]
theorem l1All_loop (w : Int) (l : List Int) (hl : l.length ≤ 1048576) (d : Nat) : ∀ (i k : Nat), i + d = l.length → d < k →
    spec_l1All.l0 k 0 (w - 1) l (l.length : Int) (i : Int) = some ((l.drop i).all (below w)) := by
  induction d with
  | zero =>
    intro i k hi hk
    obtain ⟨k, rfl⟩ : ∃ m, k = m + 1 := ⟨k - 1, by omega⟩
    simp only [spec_l1All.l0]
    rw [if_neg (by omega), List.drop_eq_nil_of_le (by omega)]; rfl
  | succ d ih =>
    intro i k hi hk
    obtain ⟨k, rfl⟩ : ∃ m, k = m + 1 := ⟨k - 1, by omega⟩
    have hit : i < l.length := by omega
    have e1 : wrap64 ((i : Int) + 1) = ((i + 1 : Nat) : Int) := by rw [wrap64_id _ (by omega) (by omega)]; omega
    have hd : l.drop i = l[i] :: l.drop (i + 1) := List.drop_eq_getElem_cons hit
    simp only [spec_l1All.l0]
    rewrite [if_pos (by omega), if_pos (by omega), if_pos (by omega), rdInt_at hit, l1In_below, hd, List.all_cons]
    simp only [Option.bind_some]
    cases hb : below w l[i] with
    | false => rewrite [if_neg (by decide)]; rfl
    | true => rewrite [if_pos rfl, e1, ih (i + 1) k (by omega) (by omega)]; rfl
theorem l1All_val (w : Int) (l : List Int) (hl : l.length ≤ 1048576) (k : Nat) (hk : l.length < k) : spec_l1All.f k l 0 (w - 1) = some (l.all (below w)) :=
  l1All_loop w l hl l.length 0 k (by omega) hk
theorem eq0_dec (x : Int) : (x == 0) = decide (x = 0) := rfl
theorem spec_gate (g : Gt) (w : Int) (hw : -1000000 ≤ w) (hw2 : w ≤ 1000000) (k : Nat) (hk : 1 ≤ k) : spec_l4Gate.f k g.f0 g.f1 g.f2 w = some (okGate w g) := by
  obtain ⟨k, rfl⟩ : ∃ m, k = m + 1 := ⟨k - 1, by omega⟩
  have ew : wrap64 (w - 1) = w - 1 := wrap64_id _ (by omega) (by omega)
  have hj : ∀ b, spec_l4Gate.j0 (k + 1) w b g.f0 g.f1 g.f2 = some (b && (below w g.f1 && below w g.f2)) := by
    intro b
    simp only [spec_l4Gate.j0]
    rewrite [ew, l1In_below, l1In_below]
    cases b with
    | false => rfl
    | true =>
      rewrite [if_pos rfl]
      simp only [Option.bind_some]
      cases below w g.f1 <;> rfl
  have e2 : spec_l1In.f g.f1 0 1 = some (below 2 g.f1) := l1In_below g.f1 2
  unfold spec_l4Gate.f okGate
  rewrite [ew, l1In_below, e2]
  simp only [Option.bind_some, hj, eq0_dec]
  by_cases h1 : g.f0 = 1
  · rewrite [if_pos h1, if_pos h1]
    cases below 2 g.f1 <;> rfl
  · rewrite [if_neg h1, if_neg h1]
    by_cases h2 : g.f0 = 2
    · rewrite [if_pos h2, if_pos h2]
      cases below w g.f1 <;> rfl
    · rewrite [if_neg h2, if_neg h2]
      by_cases h3 : g.f0 = 3
      · rewrite [if_pos h3, if_pos (by omega), beq_iff_eq.mpr h3]; rfl
      · rewrite [if_neg h3]
        by_cases h4 : g.f0 = 4
        · rewrite [if_pos h4, if_pos (by omega), beq_iff_eq.mpr h4]; rfl
        · rewrite [if_neg h4]
          by_cases h5 : g.f0 = 5
          · rewrite [if_pos (by omega), beq_iff_eq.mpr h5]; rfl
          · rewrite [if_neg (by omega), beq_eq_false_iff_ne.mpr h5]; rfl
theorem impl_gate (g : Gt) (w : Int) (k : Nat) (hk : 3 ≤ k) : impl_isGate.f k g.f0 g.f1 g.f2 w = some (okGate w g) := by
  obtain ⟨k, rfl⟩ : ∃ m, k = m + 3 := ⟨k - 3, by omega⟩
  unfold impl_isGate.f okGate
  by_cases ha : g.f0 < 1
  · rewrite [if_pos ha, if_neg (by omega), if_neg (by omega), if_neg (by omega)]
    simp only [impl_isGate.j0]
    rfl
  · rewrite [if_neg ha]
    by_cases hb : g.f0 > 5
    · rewrite [decide_eq_true hb, if_neg (by omega), if_neg (by omega), if_neg (by omega)]
      simp only [impl_isGate.j0]
      rfl
    · rewrite [decide_eq_false hb]
      simp only [impl_isGate.j0]
      rewrite [if_neg (by decide)]
      by_cases h1 : g.f0 = 1
      · rewrite [if_pos h1, if_pos h1]
        unfold below
        by_cases h2 : g.f1 < 0
        · rewrite [if_pos h2, decide_eq_false (show ¬ (0 ≤ g.f1) by omega)]
          simp only [impl_isGate.j1]
          rfl
        · rewrite [if_neg h2, decide_eq_true (show 0 ≤ g.f1 by omega)]
          by_cases h3 : g.f1 > 1
          · rewrite [decide_eq_true h3, decide_eq_false (show ¬ (g.f1 < 2) by omega)]
            simp only [impl_isGate.j1]
            rfl
          · rewrite [decide_eq_false h3, decide_eq_true (show g.f1 < 2 by omega)]
            simp only [impl_isGate.j1]
            rewrite [if_neg (by decide), if_pos (by omega)]
            by_cases h4 : g.f2 = 0
            · rewrite [decide_eq_true h4, bne_eq_false_iff_eq.mpr h4]
              simp only [impl_isGate.j2]
              rewrite [if_neg (by decide)]
              unfold impl_Gate_uses.f
              rewrite [if_pos h1]
              simp only [Option.bind_some]
              rewrite [wiresBelow_val]
              rfl
            · rewrite [decide_eq_false h4, bne_iff_ne.mpr h4]
              simp only [impl_isGate.j2]
              rfl
      · rewrite [if_neg h1, if_neg h1]
        simp only [impl_isGate.j1]
        rewrite [if_neg (by decide)]
        by_cases h2 : g.f0 = 2
        · rewrite [if_pos (by omega), if_pos h2]
          by_cases h4 : g.f2 = 0
          · rewrite [decide_eq_true h4, bne_eq_false_iff_eq.mpr h4]
            simp only [impl_isGate.j2]
            rewrite [if_neg (by decide)]
            unfold impl_Gate_uses.f
            rewrite [if_neg h1, if_pos h2]
            simp only [Option.bind_some]
            rewrite [wiresBelow_val]
            rfl
          · rewrite [decide_eq_false h4, bne_iff_ne.mpr h4, Bool.and_false]
            simp only [impl_isGate.j2]
            rfl
        · rewrite [if_neg (by omega), if_neg h2, if_pos (by omega)]
          simp only [impl_isGate.j2]
          rewrite [if_neg (by decide)]
          unfold impl_Gate_uses.f
          rewrite [if_neg h1, if_neg h2]
          simp only [Option.bind_some]
          rewrite [wiresBelow_val]
          simp only [List.all_cons, List.all_nil, Bool.and_true]
          rfl
theorem specCirc_loop (n : Int) (h0 : 0 ≤ n) (h1 : n ≤ 16) (g : List Gt) (hg : g.length ≤ 300) (o : List Int) (ho : o.length ≤ 16) (d : Nat) : ∀ (i k : Nat), i + d = g.length → d + 20 < k →
    spec_GoodCircuit.l0 k g (g.length : Int) (i : Int) n g o = some (okGates (n + (i : Int)) (g.drop i) && o.all (below (n + (g.length : Int)))) := by
  induction d with
  | zero =>
    intro i k hi hk
    obtain ⟨k, rfl⟩ : ∃ m, k = m + 1 := ⟨k - 1, by omega⟩
    have ew : wrap64 (n + (g.length : Int)) = n + (g.length : Int) := wrap64_id _ (by omega) (by omega)
    have ew2 : wrap64 (n + (g.length : Int) - 1) = n + (g.length : Int) - 1 := wrap64_id _ (by omega) (by omega)
    simp only [spec_GoodCircuit.l0]
    rewrite [if_neg (by omega), List.drop_eq_nil_of_le (by omega)]
    unfold spec_l4Wires.f
    simp only [Option.bind_some]
    rewrite [ew, ew2, l1All_val _ _ (by omega) _ (by omega)]
    rfl
  | succ d ih =>
    intro i k hi hk
    obtain ⟨k, rfl⟩ : ∃ m, k = m + 1 := ⟨k - 1, by omega⟩
    have hit : i < g.length := by omega
    have e1 : wrap64 ((i : Int) + 1) = ((i + 1 : Nat) : Int) := by rw [wrap64_id _ (by omega) (by omega)]; omega
    have e2 : wrap64 (n + (i : Int)) = n + (i : Int) := wrap64_id _ (by omega) (by omega)
    have e3 : n + (i : Int) + 1 = n + ((i + 1 : Nat) : Int) := by omega
    have hd : g.drop i = g[i] :: g.drop (i + 1) := List.drop_eq_getElem_cons hit
    simp only [spec_GoodCircuit.l0]
    rewrite [if_pos (by omega), if_pos (by omega), if_pos (by omega), rdGate_at hit, e2, spec_gate _ _ (by omega) (by omega) _ (by omega), hd, okGates]
    simp only [Option.bind_some]
    cases hb : okGate (n + (i : Int)) g[i] with
    | false => rewrite [if_neg (by decide)]; rfl
    | true => rewrite [if_pos rfl, e1, ih (i + 1) k (by omega) (by omega), e3]; rfl
theorem implCirc_loop (n : Int) (h0 : 0 ≤ n) (h1 : n ≤ 16) (g : List Gt) (hg : g.length ≤ 300) (o : List Int) (d : Nat) : ∀ (i k : Nat), i + d = g.length → d + 20 < k →
    impl_GoodCircuit.l0 k g (g.length : Int) (i : Int) n g o = some (okGates (n + (i : Int)) (g.drop i) && o.all (below (n + (g.length : Int)))) := by
  induction d with
  | zero =>
    intro i k hi hk
    obtain ⟨k, rfl⟩ : ∃ m, k = m + 1 := ⟨k - 1, by omega⟩
    have ew : wrap64 (n + (g.length : Int)) = n + (g.length : Int) := wrap64_id _ (by omega) (by omega)
    simp only [impl_GoodCircuit.l0]
    rewrite [if_neg (by omega), List.drop_eq_nil_of_le (by omega)]
    unfold impl_Circuit_wires.f
    simp only [Option.bind_some]
    rewrite [ew, wiresBelow_val]
    rfl
  | succ d ih =>
    intro i k hi hk
    obtain ⟨k, rfl⟩ : ∃ m, k = m + 1 := ⟨k - 1, by omega⟩
    have hit : i < g.length := by omega
    have e1 : wrap64 ((i : Int) + 1) = ((i + 1 : Nat) : Int) := by rw [wrap64_id _ (by omega) (by omega)]; omega
    have e2 : wrap64 (n + (i : Int)) = n + (i : Int) := wrap64_id _ (by omega) (by omega)
    have e3 : n + (i : Int) + 1 = n + ((i + 1 : Nat) : Int) := by omega
    have hd : g.drop i = g[i] :: g.drop (i + 1) := List.drop_eq_getElem_cons hit
    simp only [impl_GoodCircuit.l0]
    rewrite [if_pos (by omega), if_pos (by omega), if_pos (by omega), rdGate_at hit, e2, impl_gate _ _ _ (by omega), hd, okGates]
    simp only [Option.bind_some]
    cases hb : okGate (n + (i : Int)) g[i] with
    | false => rewrite [if_neg (by decide)]; rfl
    | true => rewrite [if_pos rfl, e1, ih (i + 1) k (by omega) (by omega), e3]; rfl
theorem okCirc_no (n : Int) (g : List Gt) (o : List Int) (h : ¬ (0 ≤ n ∧ n ≤ 16 ∧ g.length ≤ 300 ∧ o.length ≤ 16)) : okCirc n g o = false := by
  unfold okCirc
  rw [decide_eq_false h]; rfl
theorem specCirc_val (n : Int) (g : List Gt) (o : List Int) (k : Nat) (hk : 400 ≤ k) : spec_GoodCircuit.f k n g o = some (okCirc n g o) := by
  obtain ⟨k, rfl⟩ : ∃ m, k = m + 1 := ⟨k - 1, by omega⟩
  unfold spec_GoodCircuit.f spec_l1In.f
  have hj : ∀ m, spec_GoodCircuit.j0 (m + 1) true n g o = some false := by
    intro m
    simp only [spec_GoodCircuit.j0]
    rfl
  by_cases h0 : n ≥ 0
  · rewrite [if_pos h0]
    simp only [Option.bind_some]
    by_cases h1 : n ≤ 16
    · rewrite [decide_eq_true h1, if_pos rfl]
      by_cases h2 : (g.length : Int) > 300
      · rewrite [if_pos h2, hj, okCirc_no n g o (by omega)]; rfl
      · rewrite [if_neg h2]
        by_cases h3 : (o.length : Int) > 16
        · rewrite [decide_eq_true h3, hj, okCirc_no n g o (by omega)]; rfl
        · rewrite [decide_eq_false h3]
          simp only [spec_GoodCircuit.j0]
          have := specCirc_loop n h0 h1 g (by omega) o (by omega) g.length 0 k (by omega) (by omega)
          rewrite [Int.natCast_zero, Int.add_zero, List.drop_zero] at this
          rewrite [if_neg (by decide), this]
          unfold okCirc
          rewrite [decide_eq_true (show 0 ≤ n ∧ n ≤ 16 ∧ g.length ≤ 300 ∧ o.length ≤ 16 from ⟨h0, h1, by omega, by omega⟩)]
          rfl
    · rewrite [decide_eq_false h1, if_neg (by decide), hj, okCirc_no n g o (by omega)]; rfl
  · rewrite [if_neg h0]
    simp only [Option.bind_some]
    rewrite [if_neg (by decide), hj, okCirc_no n g o (by omega)]; rfl
theorem implCirc_val (n : Int) (g : List Gt) (o : List Int) (k : Nat) (hk : 400 ≤ k) : impl_GoodCircuit.f k n g o = some (okCirc n g o) := by
  obtain ⟨k, rfl⟩ : ∃ m, k = m + 1 := ⟨k - 1, by omega⟩
  unfold impl_GoodCircuit.f
  have hj : ∀ m, impl_GoodCircuit.j0 (m + 1) true n g o = some false := by
    intro m
    simp only [impl_GoodCircuit.j0]
    rfl
  by_cases h0 : n < 0
  · rewrite [if_pos h0, hj, okCirc_no n g o (by omega)]; rfl
  · rewrite [if_neg h0]
    by_cases h1 : n > 16
    · rewrite [if_pos h1, hj, okCirc_no n g o (by omega)]; rfl
    · rewrite [if_neg h1]
      by_cases h2 : (g.length : Int) > 300
      · rewrite [if_pos h2, hj, okCirc_no n g o (by omega)]; rfl
      · rewrite [if_neg h2]
        by_cases h3 : (o.length : Int) > 16
        · rewrite [decide_eq_true h3, hj, okCirc_no n g o (by omega)]; rfl
        · rewrite [decide_eq_false h3]
          simp only [impl_GoodCircuit.j0]
          have := implCirc_loop n (by omega) (by omega) g (by omega) o g.length 0 k (by omega) (by omega)
          rewrite [Int.natCast_zero, Int.add_zero, List.drop_zero] at this
          rewrite [if_neg (by decide), this]
          unfold okCirc
          rewrite [decide_eq_true (show 0 ≤ n ∧ n ≤ 16 ∧ g.length ≤ 300 ∧ o.length ≤ 16 from ⟨by omega, by omega, by omega, by omega⟩)]
          rfl
theorem szCircuit_val (n : Int) (g : List S82) (o : List Int) (hg : g.length ≤ 9223372036854775807) (ho : o.length ≤ 9223372036854775807) :
    laws_szCircuit.f n g o 1048576 = some (if g.length + o.length ≤ 1048576 then 1048576 - (g.length : Int) - (o.length : Int) else -1) := by
  unfold laws_szCircuit.f
  rewrite [szGate_val g 1048576 (by decide) (by decide) hg]
  simp only [Option.bind_some]
  by_cases h : (1048576 : Int) < (g.length : Int)
  · rewrite [if_pos h, if_pos (by decide), if_neg (by omega)]; rfl
  · rewrite [if_neg h, if_neg (by omega), szInt_val o _ (by omega) (by omega) ho]
    simp only [Option.bind_some]
    by_cases h2 : 1048576 - (g.length : Int) < (o.length : Int)
    · rewrite [if_pos h2, if_pos (by decide), if_neg (by omega)]; rfl
    · rewrite [if_neg h2, if_neg (by omega), if_pos (by omega)]; rfl
theorem toCircuit_val (k : Nat) (n : Int) (g : List S82) (o : List Int) (h : g.length + o.length ≤ 1048576) (hk : g.length + o.length < k) :
    laws_toCircuit.f k n g o = some (n, g.map convGate, o) := by
  unfold laws_toCircuit.f
  rewrite [toGate_val k g (by omega) (by omega)]
  simp only [Option.bind_some]
  rewrite [toInt_val k o (by omega) (by omega)]
  rfl
theorem eqCircuit_val (k : Nat) (n : Int) (g : List Gt) (o : List Int) (h : g.length + o.length ≤ 1048576) (hk : g.length + o.length < k) :
    laws_eqCircuit.f k n g o n g o = some true := by
  unfold laws_eqCircuit.f
  rewrite [if_pos rfl, eqGate_val k g (by omega) (by omega)]
  simp only [Option.bind_some]
  rewrite [if_pos trivial, eqInt_val k o (by omega) (by omega)]
  rfl
end Go.Proofs.Ytimkjhdopncimaa.Pure
