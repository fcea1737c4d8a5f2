/- The laws on AllWires and RunCircuit: both sides come to one run over the gates. Conditions: those of the laws' own Pure. -/
import Derived.Test.YtimkjhdopncimaaGates
import Derived.Test.YtimkjhdopncimaaMarksD
import Derived.Test.YtimkjhdopncimaaMarksDB
import Derived.Test.YtimkjhdopncimaaX15
import Derived.Test.YtimkjhdopncimaaX16
import Derived.Test.YtimkjhdopncimaaX17
import Derived.Test.YtimkjhdopncimaaX18
import Derived.Test.YtimkjhdopncimaaX19
namespace Go.Proofs.Ytimkjhdopncimaa.Pure
open Go.RowKit Go.Proofs.Ytimkjhdopncimaa.X Go.Proofs.YtimkjhdopncimaaW.PrintWords Go.Proofs.YtimkjhdopncimaaW.PrintLast Go.Proofs.YtimkjhdopncimaaW.PrintMore Go.Proofs.Ytimkjhdopncimaa.Bits
/-- What a gate puts on its wire. -/
def gateVal (out : List Bool) (g : Gt) : Bool :=
  if g.f0 = 1 then g.f1 == 1 else if g.f0 = 2 then !(rdOf false out g.f1)
  else if g.f0 = 3 then (if rdOf false out g.f1 = true then rdOf false out g.f2 else false)
  else if g.f0 = 4 then (if rdOf false out g.f1 = true then true else rdOf false out g.f2)
  else rdOf false out g.f1 != rdOf false out g.f2
def runW : List Gt → List Bool → List Bool
  | [], out => out
  | g :: r, out => runW r (out ++ [gateVal out g])
theorem runW_len (g : List Gt) : ∀ out, (runW g out).length = out.length + g.length := by
  induction g with
  | nil => intro out; rfl
  | cons x t ih => intro out; rw [runW, ih]; simp; omega
theorem below_is {w x : Int} (h : below w x = true) : 0 ≤ x ∧ x < w := by
  unfold below at h
  simpa using h
theorem okGate_cases {w : Int} {g : Gt} (h : okGate w g = true) : g.f0 = 1 ∨ (g.f0 = 2 ∧ 0 ≤ g.f1 ∧ g.f1 < w) ∨ ((g.f0 = 3 ∨ g.f0 = 4 ∨ g.f0 = 5) ∧ 0 ≤ g.f1 ∧ g.f1 < w ∧ 0 ≤ g.f2 ∧ g.f2 < w) := by
  unfold okGate at h
  split at h
  · rename_i h1; exact .inl h1
  · split at h
    · rename_i h2
      rw [Bool.and_eq_true] at h
      have := below_is h.1
      exact .inr (.inl ⟨h2, this⟩)
    · split at h
      · rename_i h3
        rw [Bool.and_eq_true] at h
        have h4 := below_is h.1
        have h5 := below_is h.2
        exact .inr (.inr ⟨by omega, h4.1, h4.2, h5⟩)
      · cases h
theorem run_spec_loop (g : List Gt) (hg : g.length ≤ 300) (n : Nat) (hn : n ≤ 16) (d : Nat) : ∀ (i k : Nat) (out : List Bool), i + d = g.length → out.length = n + i → d < k → okGates ((n : Int) + (i : Int)) (g.drop i) = true →
    spec_l4Run.l0 k out g (g.length : Int) (i : Int) = some (runW (g.drop i) out) := by
  induction d with
  | zero =>
    intro i k out hi ho hk h
    obtain ⟨k, rfl⟩ : ∃ m, k = m + 1 := ⟨k - 1, by omega⟩
    simp only [spec_l4Run.l0]
    rewrite [if_neg (by omega), List.drop_eq_nil_of_le (by omega)]; rfl
  | succ d ih =>
    intro i k out hi ho hk h
    obtain ⟨k, rfl⟩ : ∃ m, k = m + 1 := ⟨k - 1, by omega⟩
    have hit : i < g.length := by omega
    have e1 : wrap64 ((i : Int) + 1) = ((i + 1 : Nat) : Int) := by rw [wrap64_id _ (by omega) (by omega)]; omega
    have hd : g.drop i = g[i] :: g.drop (i + 1) := List.drop_eq_getElem_cons hit
    rw [hd] at h ⊢
    rw [okGates, Bool.and_eq_true] at h
    have e3 : (n : Int) + (i : Int) + 1 = (n : Int) + ((i + 1 : Nat) : Int) := by omega
    have hgo : ∀ b : Bool, b = gateVal out g[i] → spec_l4Run.l0 k (out ++ [b]) g (g.length : Int) ((i + 1 : Nat) : Int) = some (runW (g[i] :: g.drop (i + 1)) out) := by
      intro b hb
      rw [ih (i + 1) k (out ++ [b]) (by omega) (by simp; omega) (by omega) (by rw [← e3]; exact h.2), runW, hb]
    simp only [spec_l4Run.l0]
    rewrite [if_pos (by omega), if_pos (by omega), if_pos (by omega), rdGate_at hit, e1]
    rcases okGate_cases h.1 with h1 | ⟨h1, h2, h3⟩ | ⟨h1, h2, h3, h4, h5⟩
    · rewrite [if_pos h1, if_pos (by omega)]
      exact hgo _ (by unfold gateVal; rw [if_pos h1])
    · rewrite [if_neg (by omega), if_pos h1, if_pos h2, if_pos (by omega), if_pos (by omega)]
      exact hgo _ (by unfold gateVal; rw [if_neg (by omega), if_pos h1])
    · rewrite [if_neg (by omega), if_neg (by omega)]
      by_cases c3 : g[i].f0 = 3
      · rewrite [if_pos c3, if_pos h2, if_pos (by omega)]
        by_cases c : rdOf false out g[i].f1 = true
        · rewrite [if_pos c, if_pos h4, if_pos (by omega), if_pos (by omega)]
          exact hgo _ (by unfold gateVal; rw [if_neg (by omega), if_neg (by omega), if_pos c3, if_pos c])
        · rewrite [if_neg c, if_pos (by omega)]
          exact hgo _ (by unfold gateVal; rw [if_neg (by omega), if_neg (by omega), if_pos c3, if_neg c])
      · rewrite [if_neg c3]
        by_cases c4 : g[i].f0 = 4
        · rewrite [if_pos c4, if_pos h2, if_pos (by omega)]
          by_cases c : rdOf false out g[i].f1 = true
          · rewrite [if_pos c, if_pos (by omega)]
            exact hgo _ (by unfold gateVal; rw [if_neg (by omega), if_neg (by omega), if_neg (by omega), if_pos c4, if_pos c])
          · rewrite [if_neg c, if_pos h4, if_pos (by omega), if_pos (by omega)]
            exact hgo _ (by unfold gateVal; rw [if_neg (by omega), if_neg (by omega), if_neg (by omega), if_pos c4, if_neg c])
        · rewrite [if_neg c4, if_pos (by omega), if_pos h2, if_pos (by omega), if_pos h4, if_pos (by omega), if_pos (by omega)]
          exact hgo _ (by unfold gateVal; rw [if_neg (by omega), if_neg (by omega), if_neg (by omega), if_neg (by omega)])
theorem run_impl_loop (g : List Gt) (hg : g.length ≤ 300) (n : Nat) (hn : n ≤ 16) (d : Nat) : ∀ (i k : Nat) (out : List Bool), i + d = g.length → out.length = n + i → d < k → okGates ((n : Int) + (i : Int)) (g.drop i) = true →
    impl_Circuit_allWires.l0 k out g (g.length : Int) (i : Int) = some (runW (g.drop i) out) := by
  induction d with
  | zero =>
    intro i k out hi ho hk h
    obtain ⟨k, rfl⟩ : ∃ m, k = m + 1 := ⟨k - 1, by omega⟩
    simp only [impl_Circuit_allWires.l0]
    rewrite [if_neg (by omega), List.drop_eq_nil_of_le (by omega)]; rfl
  | succ d ih =>
    intro i k out hi ho hk h
    obtain ⟨k, rfl⟩ : ∃ m, k = m + 1 := ⟨k - 1, by omega⟩
    have hit : i < g.length := by omega
    have e1 : wrap64 ((i : Int) + 1) = ((i + 1 : Nat) : Int) := by rw [wrap64_id _ (by omega) (by omega)]; omega
    have hd : g.drop i = g[i] :: g.drop (i + 1) := List.drop_eq_getElem_cons hit
    rw [hd] at h ⊢
    rw [okGates, Bool.and_eq_true] at h
    have e3 : (n : Int) + (i : Int) + 1 = (n : Int) + ((i + 1 : Nat) : Int) := by omega
    have hgo : ∀ b : Bool, b = gateVal out g[i] → impl_Circuit_allWires.l0 k (out ++ [b]) g (g.length : Int) ((i + 1 : Nat) : Int) = some (runW (g[i] :: g.drop (i + 1)) out) := by
      intro b hb
      rw [ih (i + 1) k (out ++ [b]) (by omega) (by simp; omega) (by omega) (by rw [← e3]; exact h.2), runW, hb]
    simp only [impl_Circuit_allWires.l0]
    rewrite [if_pos (by omega), if_pos (by omega), if_pos (by omega), rdGate_at hit, e1]
    rcases okGate_cases h.1 with h1 | ⟨h1, h2, h3⟩ | ⟨h1, h2, h3, h4, h5⟩
    · rewrite [if_neg (by omega), if_neg (by omega), if_neg (by omega), if_neg (by omega), if_pos (by omega)]
      exact hgo _ (by unfold gateVal; rw [if_pos h1])
    · rewrite [if_pos h1, if_pos h2, if_pos (by omega), if_pos (by omega)]
      exact hgo _ (by unfold gateVal; rw [if_neg (by omega), if_pos h1])
    · rewrite [if_neg (by omega)]
      by_cases c3 : g[i].f0 = 3
      · rewrite [if_pos c3, if_pos h2, if_pos (by omega)]
        by_cases c : rdOf false out g[i].f1 = true
        · rewrite [if_pos c, if_pos h4, if_pos (by omega), if_pos (by omega)]
          exact hgo _ (by unfold gateVal; rw [if_neg (by omega), if_neg (by omega), if_pos c3, if_pos c])
        · rewrite [if_neg c, if_pos (by omega)]
          exact hgo _ (by unfold gateVal; rw [if_neg (by omega), if_neg (by omega), if_pos c3, if_neg c])
      · rewrite [if_neg c3]
        by_cases c4 : g[i].f0 = 4
        · rewrite [if_pos c4, if_pos h2, if_pos (by omega)]
          by_cases c : rdOf false out g[i].f1 = true
          · rewrite [if_pos c, if_pos (by omega)]
            exact hgo _ (by unfold gateVal; rw [if_neg (by omega), if_neg (by omega), if_neg (by omega), if_pos c4, if_pos c])
          · rewrite [if_neg c, if_pos h4, if_pos (by omega), if_pos (by omega)]
            exact hgo _ (by unfold gateVal; rw [if_neg (by omega), if_neg (by omega), if_neg (by omega), if_pos c4, if_neg c])
        · rewrite [if_neg c4, if_pos (by omega), if_pos h2, if_pos (by omega), if_pos h4, if_pos (by omega), if_pos (by omega)]
          exact hgo _ (by unfold gateVal; rw [if_neg (by omega), if_neg (by omega), if_neg (by omega), if_neg (by omega)])
theorem okCirc_is {n : Int} {g : List Gt} {o : List Int} (h : okCirc n g o = true) : 0 ≤ n ∧ n ≤ 16 ∧ g.length ≤ 300 ∧ o.length ≤ 16 ∧ okGates n g = true ∧ o.all (below (n + (g.length : Int))) = true := by
  unfold okCirc at h
  rw [Bool.and_eq_true, Bool.and_eq_true, decide_eq_true_eq] at h
  exact ⟨h.1.1, h.1.2.1, h.1.2.2.1, h.1.2.2.2, h.2⟩
/-- What AllWires returns. -/
def wiresR (n : Int) (g : List Gt) (o : List Int) (ins : List Bool) : List Bool × Bool :=
  if okCirc n g o = true ∧ (ins.length : Int) = n then (runW g ins, true) else ([], false)
theorem wiresR_len (n : Int) (g : List Gt) (o : List Int) (ins : List Bool) : (wiresR n g o ins).1.length ≤ 400 := by
  unfold wiresR
  split
  · rename_i h
    obtain ⟨h1, h2, h3, h4, h5, h6⟩ := okCirc_is h.1
    simp only [runW_len]; omega
  · simp
theorem run_spec (n : Int) (g : List Gt) (o : List Int) (ins : List Bool) (h : okCirc n g o = true) (hn : (ins.length : Int) = n) (k : Nat) (hk : 400 < k) : spec_l4Run.f k n g o ins = some (runW g ins) := by
  obtain ⟨h1, h2, h3, h4, h5, h6⟩ := okCirc_is h
  unfold spec_l4Run.f
  simp only [Option.bind_some, List.length_nil, List.nil_append]
  rewrite [if_pos (by omega)]
  have := run_spec_loop g h3 ins.length (by omega) g.length 0 k ins (by omega) (by omega) (by omega) (by rw [hn]; simpa using h5)
  simpa using this
theorem run_impl (n : Int) (g : List Gt) (o : List Int) (ins : List Bool) (h : okCirc n g o = true) (hn : (ins.length : Int) = n) (k : Nat) (hk : 400 < k) : impl_Circuit_allWires.f k n g o ins = some (runW g ins) := by
  obtain ⟨h1, h2, h3, h4, h5, h6⟩ := okCirc_is h
  unfold impl_Circuit_allWires.f slices_Clone_bool.f
  simp only [Option.bind_some, List.length_nil, List.nil_append]
  rewrite [if_pos (by omega)]
  simp only [Option.bind_some]
  have := run_impl_loop g h3 ins.length (by omega) g.length 0 k ins (by omega) (by omega) (by omega) (by rw [hn]; simpa using h5)
  simpa using this
theorem AllWires_both (n : Int) (g : List Gt) (o : List Int) (ins : List Bool) (k : Nat) (hk : 400 < k) : spec_AllWires.f k n g o ins = some (wiresR n g o ins) ∧ impl_AllWires.f k n g o ins = some (wiresR n g o ins) := by
  unfold spec_AllWires.f impl_AllWires.f wiresR
  rewrite [specCirc_val n g o k (by omega), implCirc_val n g o k (by omega)]
  simp only [Option.bind_some]
  by_cases h : okCirc n g o = true
  · rewrite [if_pos h, if_pos h]
    by_cases hn : (ins.length : Int) = n
    · rewrite [if_pos hn, if_pos hn, run_spec n g o ins h hn k hk, run_impl n g o ins h hn k hk, if_pos ⟨h, hn⟩]
      exact ⟨rfl, rfl⟩
    · rewrite [if_neg hn, if_neg hn, if_neg (fun x => hn x.2)]
      exact ⟨rfl, rfl⟩
  · rewrite [if_neg h, if_neg h, if_neg (fun x => h x.1)]
    exact ⟨rfl, rfl⟩
theorem markCircuit_val (k : Nat) (b n : Int) (hb : 0 ≤ b) (hb2 : b ≤ 1000000) (g : List Gt) (o : List Int) (h : g.length + o.length ≤ 1048576) (hk : g.length + o.length < k) :
    laws_markCircuit.f k n g o b = some (b + 3 * (g.length : Int) + 1 * (o.length : Int), mkGate b g.length, mkInt (b + 3 * (g.length : Int)) o.length) := by
  unfold laws_markCircuit.f
  rewrite [markGate_val k b hb (by omega) g (by omega) (by omega)]
  simp only [Option.bind_some]
  rewrite [markInt_val k _ (by omega) (by omega) o (by omega) (by omega)]
  rfl
end Go.Proofs.Ytimkjhdopncimaa.Pure
