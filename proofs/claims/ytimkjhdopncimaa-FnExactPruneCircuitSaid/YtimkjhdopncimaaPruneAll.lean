/- Bits of 64-bit words as the model tells them: and, or, xor, shifts and masks as remainders and powers of two. No condition. The laws' own list functions (copying, comparing, measuring, writing over, looking again) come to plain lists. Conditions: lists no longer than 2^20. Written by wip/xp/lists.py. The law over circuits' validity: both sides come to one plain test. Conditions: a circuit of this machine's word. The laws' own list functions (copying, comparing, measuring, writing over, looking again) come to plain lists. Conditions: lists no longer than 2^20. Written by wip/xp/lists.py. The laws' own list functions (copying, comparing, measuring, writing over, looking again) come to plain lists. Conditions: lists no longer than 2^20. Written by wip/xp/lists.py. What the laws on AddGates, LessGates and EqGates share: the operands' test, the circuit's copy, marks and what is held. Conditions: lists no longer than 2^20. The cone of a circuit's wires: the run from the last gate to the first comes to the same marks on both sides. Conditions: a good circuit. The law on PruneCircuit. Conditions: those of the law's own Pure. -/
import Derived.Test.YtimkjhdopncimaaWMore
import Derived.Laws.BitsLemmas
import Derived.Test.YtimkjhdopncimaaXO
import Derived.Test.YtimkjhdopncimaaX1
import Derived.Test.YtimkjhdopncimaaX8
import Derived.Test.YtimkjhdopncimaaX11
import Derived.Test.YtimkjhdopncimaaX13
import Derived.Test.YtimkjhdopncimaaX23
import Derived.Test.YtimkjhdopncimaaX24
import Derived.Test.YtimkjhdopncimaaX26
import Derived.Test.YtimkjhdopncimaaX32
import Derived.Test.YtimkjhdopncimaaX33
import Derived.Test.YtimkjhdopncimaaX34
import Derived.Test.YtimkjhdopncimaaX35
import Derived.Test.YtimkjhdopncimaaX36
import Derived.Test.YtimkjhdopncimaaX4
import Derived.Test.YtimkjhdopncimaaX5
namespace Go.Proofs.Ytimkjhdopncimaa.Bits
open Go.RowKit Go.Proofs.YtimkjhdopncimaaW.PrintWords

theorem wrap64_id (n : Int) (h0 : -9223372036854775808 ≤ n) (h1 : n ≤ 9223372036854775807) : wrap64 n = n := by unfold wrap64; omega

/-- The words of a width. -/
def word (w a : Int) : Prop := 1 ≤ w ∧ w ≤ 64 ∧ 0 ≤ a ∧ a < 2 ^ w.toNat
instance (w a : Int) : Decidable (word w a) := by unfold word; infer_instance
end Go.Proofs.Ytimkjhdopncimaa.Bits

namespace Go.Proofs.Ytimkjhdopncimaa.Pure
open Go.RowKit Go.Proofs.Ytimkjhdopncimaa.X Go.Proofs.YtimkjhdopncimaaW.PrintWords Go.Proofs.YtimkjhdopncimaaW.PrintLast Go.Proofs.YtimkjhdopncimaaW.PrintMore Go.Proofs.Ytimkjhdopncimaa.Bits
theorem set_mid {α : Type} (a b : List α) (x y : α) (n : Nat) (h : n = a.length) : (a ++ x :: b).set n y = a ++ y :: b := by
 subst h; simp
def convGate (x : S82) : S59 := ⟨x.f0, x.f1, x.f2⟩
theorem rdGate_at {t : List S59} {i : Nat} (h : i < t.length) : rd_T59 t (i : Int) = t[i] := by
 unfold rd_T59
 rw [Int.toNat_natCast, List.getD_eq_getElem?_getD, List.getElem?_eq_getElem h]; rfl
theorem rdlGate_at {t : List S82} {i : Nat} (h : i < t.length) : rd_T82 t (i : Int) = t[i] := by
 unfold rd_T82
 rw [Int.toNat_natCast, List.getD_eq_getElem?_getD, List.getElem?_eq_getElem h]; rfl
theorem szGate_val (l : List S82) (left : Int) (h0 : 0 ≤ left) (h1 : left ≤ 1048576) (hl : l.length ≤ 9223372036854775807) : laws_szGateS.f l left = some (if left < (l.length : Int) then -1 else left - (l.length : Int)) := by
 unfold laws_szGateS.f
 rw [wrap64_id _ (by omega) (by omega)]
 by_cases h : left < (l.length : Int)
 ·rw [if_pos (by omega), if_pos h]
 ·rw [if_neg (by omega), if_neg h]
theorem toGate_loop (l : List S82) (hl : l.length ≤ 1048576) (d : Nat) : ∀ (i : Nat) (k : Nat), i + d = l.length → d < k →
  laws_toGateS.l0 k l (((l.take i).map convGate) ++ List.replicate d z59) (i : Int) = some (l.map convGate) := by
 induction d with
 | zero =>
  intro i k hi hk
  obtain ⟨k, rfl⟩ : ∃ m, k = m + 1 := ⟨k - 1, by omega⟩
  simp only [laws_toGateS.l0]
  rw [if_neg (by omega), List.take_of_length_le (by omega)]
  simp
 | succ d ih =>
  intro i k hi hk
  obtain ⟨k, rfl⟩ : ∃ m, k = m + 1 := ⟨k - 1, by omega⟩
  have hit : i < l.length := by omega
  have e1 : wrap64 ((i : Int) + 1) = ((i + 1 : Nat) : Int) := by rw [wrap64_id _ (by omega) (by omega)]; omega
  simp only [laws_toGateS.l0]
  rewrite [if_pos (by omega), if_pos (by omega)]
  unfold laws_toGate.f
  simp only [Option.bind_some]
  rewrite [if_pos (by simp; omega), rdlGate_at hit, e1, Int.toNat_natCast, List.replicate_succ, set_mid _ _ _ _ _ (by simp; omega)]
  have h2 : ((l.take i).map convGate) ++ (⟨l[i].f0, l[i].f1, l[i].f2⟩ : S59) :: List.replicate d z59 = ((l.take (i + 1)).map convGate) ++ List.replicate d z59 := by
   rw [List.take_add_one, List.getElem?_eq_getElem hit, Option.toList_some, List.map_append, List.append_assoc]
   rfl
  rewrite [h2]
  exact ih (i + 1) k (by omega) (by omega)
theorem toGate_val (k : Nat) (l : List S82) (hl : l.length ≤ 1048576) (hk : l.length < k) : laws_toGateS.f k l = some (l.map convGate) := by
 unfold laws_toGateS.f
 rw [if_pos (by omega), Int.toNat_natCast, if_pos (by omega)]
 have := toGate_loop l hl l.length 0 k (by omega) hk
 simpa using this
theorem eqGate_loop (l : List S59) (hl : l.length ≤ 1048576) (d : Nat) : ∀ (i : Nat) (k : Nat), i + d = l.length → d < k → laws_eqGateS.l0 k l l (i : Int) = some true := by
 induction d with
 | zero =>
  intro i k hi hk
  obtain ⟨k, rfl⟩ : ∃ m, k = m + 1 := ⟨k - 1, by omega⟩
  simp only [laws_eqGateS.l0]
  rw [if_neg (by omega)]
 | succ d ih =>
  intro i k hi hk
  obtain ⟨k, rfl⟩ : ∃ m, k = m + 1 := ⟨k - 1, by omega⟩
  have e1 : wrap64 ((i : Int) + 1) = ((i + 1 : Nat) : Int) := by rw [wrap64_id _ (by omega) (by omega)]; omega
  simp only [laws_eqGateS.l0]
  rewrite [if_pos (by omega), if_pos (by omega), if_pos (by omega)]
  unfold laws_eqGate.f
  rewrite [if_pos rfl, if_pos rfl, if_pos rfl]
  simp only [Option.bind_some, if_true]
  rewrite [e1]
  exact ih (i + 1) k (by omega) (by omega)
theorem eqGate_val (k : Nat) (l : List S59) (hl : l.length ≤ 1048576) (hk : l.length < k) : laws_eqGateS.f k l l = some true := by
 unfold laws_eqGateS.f
 rw [if_pos rfl]
 exact eqGate_loop l hl l.length 0 k (by omega) hk

theorem rdInt_at {t : List Int} {i : Nat} (h : i < t.length) : rd t (i : Int) = t[i] := by
 unfold rd
 rw [Int.toNat_natCast, List.getD_eq_getElem?_getD, List.getElem?_eq_getElem h]; rfl
theorem szInt_val (l : List Int) (left : Int) (h0 : 0 ≤ left) (h1 : left ≤ 1048576) (hl : l.length ≤ 9223372036854775807) : laws_szIntS.f l left = some (if left < (l.length : Int) then -1 else left - (l.length : Int)) := by
 unfold laws_szIntS.f
 rw [wrap64_id _ (by omega) (by omega)]
 by_cases h : left < (l.length : Int)
 ·rw [if_pos (by omega), if_pos h]
 ·rw [if_neg (by omega), if_neg h]
theorem toInt_loop (l : List Int) (hl : l.length ≤ 1048576) (d : Nat) : ∀ (i : Nat) (k : Nat), i + d = l.length → d < k →
  laws_toIntS.l0 k l ((l.take i) ++ List.replicate d 0) (i : Int) = some (l) := by
 induction d with
 | zero =>
  intro i k hi hk
  obtain ⟨k, rfl⟩ : ∃ m, k = m + 1 := ⟨k - 1, by omega⟩
  simp only [laws_toIntS.l0]
  rw [if_neg (by omega), List.take_of_length_le (by omega)]
  simp
 | succ d ih =>
  intro i k hi hk
  obtain ⟨k, rfl⟩ : ∃ m, k = m + 1 := ⟨k - 1, by omega⟩
  have hit : i < l.length := by omega
  have e1 : wrap64 ((i : Int) + 1) = ((i + 1 : Nat) : Int) := by rw [wrap64_id _ (by omega) (by omega)]; omega
  simp only [laws_toIntS.l0]
  rewrite [if_pos (by omega), if_pos (by omega)]
  rewrite [if_pos (by simp; omega), rdInt_at hit, e1, Int.toNat_natCast, List.replicate_succ, set_mid _ _ _ _ _ (by simp; omega)]
  have h2 : (l.take i) ++ l[i] :: List.replicate d 0 = (l.take (i + 1)) ++ List.replicate d 0 := by
   rw [List.take_add_one, List.getElem?_eq_getElem hit, Option.toList_some, List.append_assoc]
   rfl
  rewrite [h2]
  exact ih (i + 1) k (by omega) (by omega)
theorem toInt_val (k : Nat) (l : List Int) (hl : l.length ≤ 1048576) (hk : l.length < k) : laws_toIntS.f k l = some (l) := by
 unfold laws_toIntS.f
 rw [if_pos (by omega), Int.toNat_natCast, if_pos (by omega)]
 have := toInt_loop l hl l.length 0 k (by omega) hk
 simpa using this
theorem eqInt_loop (l : List Int) (hl : l.length ≤ 1048576) (d : Nat) : ∀ (i : Nat) (k : Nat), i + d = l.length → d < k → laws_eqIntS.l0 k l l (i : Int) = some true := by
 induction d with
 | zero =>
  intro i k hi hk
  obtain ⟨k, rfl⟩ : ∃ m, k = m + 1 := ⟨k - 1, by omega⟩
  simp only [laws_eqIntS.l0]
  rw [if_neg (by omega)]
 | succ d ih =>
  intro i k hi hk
  obtain ⟨k, rfl⟩ : ∃ m, k = m + 1 := ⟨k - 1, by omega⟩
  have e1 : wrap64 ((i : Int) + 1) = ((i + 1 : Nat) : Int) := by rw [wrap64_id _ (by omega) (by omega)]; omega
  simp only [laws_eqIntS.l0]
  rewrite [if_pos (by omega), if_pos (by omega), if_pos (by omega)]
  rewrite [if_pos trivial]
  rewrite [e1]
  exact ih (i + 1) k (by omega) (by omega)
theorem eqInt_val (k : Nat) (l : List Int) (hl : l.length ≤ 1048576) (hk : l.length < k) : laws_eqIntS.f k l l = some true := by
 unfold laws_eqIntS.f
 rw [if_pos rfl]
 exact eqInt_loop l hl l.length 0 k (by omega) hk

end Go.Proofs.Ytimkjhdopncimaa.Pure

namespace Go.Proofs.Ytimkjhdopncimaa.Pure
open Go.RowKit Go.Proofs.Ytimkjhdopncimaa.X Go.Proofs.YtimkjhdopncimaaW.PrintWords Go.Proofs.YtimkjhdopncimaaW.PrintLast Go.Proofs.YtimkjhdopncimaaW.PrintMore Go.Proofs.Ytimkjhdopncimaa.Bits
abbrev Gt := S59
/-- A wire's number below a bound. -/
def below (w x : Int) : Bool := decide (0 ≤ x) && decide (x < w)
/-- A gate that may have the wire w. -/
def okGate (w : Int) (g : Gt) : Bool :=
 if g.f0 = 1 then below 2 g.f1 && decide (g.f2 = 0)
 else if g.f0 = 2 then below w g.f1 && decide (g.f2 = 0)
 else if 3 ≤ g.f0 ∧ g.f0 ≤ 5 then below w g.f1 && below w g.f2 else false
def okGates : Int → List Gt → Bool
 | _, [] => true
 | w, g :: r => okGate w g && okGates (w + 1) r
def okCirc (n : Int) (g : List Gt) (o : List Int) : Bool :=
 decide (0 ≤ n ∧ n ≤ 16 ∧ g.length ≤ 300 ∧ o.length ≤ 16) && (okGates n g && o.all (below (n + (g.length : Int))))
theorem offWire_eq (w x : Int) : offWire w x = !below w x := by
 unfold offWire below
 by_cases h : x < 0
 ·rw [decide_eq_true h, decide_eq_false (show ¬ (0 ≤ x) by omega)]; rfl
 ·rw [decide_eq_false h, decide_eq_true (show 0 ≤ x by omega)]
  by_cases h2 : x < w
  ·rw [decide_eq_true h2, decide_eq_false (show ¬ (w ≤ x) by omega)]; rfl
  ·rw [decide_eq_false h2, decide_eq_true (show w ≤ x by omega)]; rfl
theorem l1In_below (x w : Int) : spec_l1In.f x 0 (w - 1) = some (below w x) := by
 unfold spec_l1In.f below
 by_cases h : x ≥ 0
 ·rw [if_pos h, decide_eq_true (show 0 ≤ x from h), Bool.true_and]
  congr 1
  exact decide_eq_decide.mpr (by omega)
 ·rw [if_neg h, decide_eq_false (show ¬ (0 ≤ x) from h)]; rfl
theorem wiresBelow_val (l : List Int) (w : Int) : impl_areWiresBelow.f l w = some (l.all (below w)) := by
 unfold impl_areWiresBelow.f impl_areWiresBelow_any.f
 simp only [Option.bind_some]
 congr 1
 induction l with
 | nil => rfl
 | cons x t ih =>
  rw [List.any_cons, List.all_cons, Bool.not_or, ih, offWire_eq, Bool.not_not]
theorem l1All_loop (w : Int) (l : List Int) (hl : l.length ≤ 1048576) (d : Nat) : ∀ (i k : Nat), i + d = l.length → d < k →
  spec_l1All.l0 k 0 (w - 1) l (l.length : Int) (i : Int) = some ((l.drop i).all (below w)) := by
 induction d with
 | zero =>
  intro i k hi hk
  obtain ⟨k, rfl⟩ : ∃ m, k = m + 1 := ⟨k - 1, by omega⟩
  simp only [spec_l1All.l0]
  rw [if_neg (by omega), List.drop_eq_nil_of_le (by omega)]; rfl
 | succ d ih =>
  intro i k hi hk
  obtain ⟨k, rfl⟩ : ∃ m, k = m + 1 := ⟨k - 1, by omega⟩
  have hit : i < l.length := by omega
  have e1 : wrap64 ((i : Int) + 1) = ((i + 1 : Nat) : Int) := by rw [wrap64_id _ (by omega) (by omega)]; omega
  have hd : l.drop i = l[i] :: l.drop (i + 1) := List.drop_eq_getElem_cons hit
  simp only [spec_l1All.l0]
  rewrite [if_pos (by omega), if_pos (by omega), if_pos (by omega), rdInt_at hit, l1In_below, hd, List.all_cons]
  simp only [Option.bind_some]
  cases hb : below w l[i] with
  | false => rewrite [if_neg (by decide)]; rfl
  | true => rewrite [if_pos rfl, e1, ih (i + 1) k (by omega) (by omega)]; rfl
theorem l1All_val (w : Int) (l : List Int) (hl : l.length ≤ 1048576) (k : Nat) (hk : l.length < k) : spec_l1All.f k l 0 (w - 1) = some (l.all (below w)) :=
 l1All_loop w l hl l.length 0 k (by omega) hk
theorem eq0_dec (x : Int) : (x == 0) = decide (x = 0) := rfl
theorem spec_gate (g : Gt) (w : Int) (hw : -1000000 ≤ w) (hw2 : w ≤ 1000000) (k : Nat) (hk : 1 ≤ k) : spec_l4Gate.f k g.f0 g.f1 g.f2 w = some (okGate w g) := by
 obtain ⟨k, rfl⟩ : ∃ m, k = m + 1 := ⟨k - 1, by omega⟩
 have ew : wrap64 (w - 1) = w - 1 := wrap64_id _ (by omega) (by omega)
 have hj : ∀ b, spec_l4Gate.j0 (k + 1) w b g.f0 g.f1 g.f2 = some (b && (below w g.f1 && below w g.f2)) := by
  intro b
  simp only [spec_l4Gate.j0]
  rewrite [ew, l1In_below, l1In_below]
  cases b with
  | false => rfl
  | true =>
   rewrite [if_pos rfl]
   simp only [Option.bind_some]
   cases below w g.f1 <;> rfl
 have e2 : spec_l1In.f g.f1 0 1 = some (below 2 g.f1) := l1In_below g.f1 2
 unfold spec_l4Gate.f okGate
 rewrite [ew, l1In_below, e2]
 simp only [Option.bind_some, hj, eq0_dec]
 by_cases h1 : g.f0 = 1
 ·rewrite [if_pos h1, if_pos h1]
  cases below 2 g.f1 <;> rfl
 ·rewrite [if_neg h1, if_neg h1]
  by_cases h2 : g.f0 = 2
  ·rewrite [if_pos h2, if_pos h2]
   cases below w g.f1 <;> rfl
  ·rewrite [if_neg h2, if_neg h2]
   by_cases h3 : g.f0 = 3
   ·rewrite [if_pos h3, if_pos (by omega), beq_iff_eq.mpr h3]; rfl
   ·rewrite [if_neg h3]
    by_cases h4 : g.f0 = 4
    ·rewrite [if_pos h4, if_pos (by omega), beq_iff_eq.mpr h4]; rfl
    ·rewrite [if_neg h4]
     by_cases h5 : g.f0 = 5
     ·rewrite [if_pos (by omega), beq_iff_eq.mpr h5]; rfl
     ·rewrite [if_neg (by omega), beq_eq_false_iff_ne.mpr h5]; rfl
theorem impl_gate (g : Gt) (w : Int) (k : Nat) (hk : 3 ≤ k) : impl_isGate.f k g.f0 g.f1 g.f2 w = some (okGate w g) := by
 obtain ⟨k, rfl⟩ : ∃ m, k = m + 3 := ⟨k - 3, by omega⟩
 unfold impl_isGate.f okGate
 by_cases ha : g.f0 < 1
 ·rewrite [if_pos ha, if_neg (by omega), if_neg (by omega), if_neg (by omega)]
  simp only [impl_isGate.j0]
  rfl
 ·rewrite [if_neg ha]
  by_cases hb : g.f0 > 5
  ·rewrite [decide_eq_true hb, if_neg (by omega), if_neg (by omega), if_neg (by omega)]
   simp only [impl_isGate.j0]
   rfl
  ·rewrite [decide_eq_false hb]
   simp only [impl_isGate.j0]
   rewrite [if_neg (by decide)]
   by_cases h1 : g.f0 = 1
   ·rewrite [if_pos h1, if_pos h1]
    unfold below
    by_cases h2 : g.f1 < 0
    ·rewrite [if_pos h2, decide_eq_false (show ¬ (0 ≤ g.f1) by omega)]
     simp only [impl_isGate.j1]
     rfl
    ·rewrite [if_neg h2, decide_eq_true (show 0 ≤ g.f1 by omega)]
     by_cases h3 : g.f1 > 1
     ·rewrite [decide_eq_true h3, decide_eq_false (show ¬ (g.f1 < 2) by omega)]
      simp only [impl_isGate.j1]
      rfl
     ·rewrite [decide_eq_false h3, decide_eq_true (show g.f1 < 2 by omega)]
      simp only [impl_isGate.j1]
      rewrite [if_neg (by decide), if_pos (by omega)]
      by_cases h4 : g.f2 = 0
      ·rewrite [decide_eq_true h4, bne_eq_false_iff_eq.mpr h4]
       simp only [impl_isGate.j2]
       rewrite [if_neg (by decide)]
       unfold impl_Gate_uses.f
       rewrite [if_pos h1]
       simp only [Option.bind_some]
       rewrite [wiresBelow_val]
       rfl
      ·rewrite [decide_eq_false h4, bne_iff_ne.mpr h4]
       simp only [impl_isGate.j2]
       rfl
   ·rewrite [if_neg h1, if_neg h1]
    simp only [impl_isGate.j1]
    rewrite [if_neg (by decide)]
    by_cases h2 : g.f0 = 2
    ·rewrite [if_pos (by omega), if_pos h2]
     by_cases h4 : g.f2 = 0
     ·rewrite [decide_eq_true h4, bne_eq_false_iff_eq.mpr h4]
      simp only [impl_isGate.j2]
      rewrite [if_neg (by decide)]
      unfold impl_Gate_uses.f
      rewrite [if_neg h1, if_pos h2]
      simp only [Option.bind_some]
      rewrite [wiresBelow_val]
      rfl
     ·rewrite [decide_eq_false h4, bne_iff_ne.mpr h4, Bool.and_false]
      simp only [impl_isGate.j2]
      rfl
    ·rewrite [if_neg (by omega), if_neg h2, if_pos (by omega)]
     simp only [impl_isGate.j2]
     rewrite [if_neg (by decide)]
     unfold impl_Gate_uses.f
     rewrite [if_neg h1, if_neg h2]
     simp only [Option.bind_some]
     rewrite [wiresBelow_val]
     simp only [List.all_cons, List.all_nil, Bool.and_true]
     rfl
theorem specCirc_loop (n : Int) (h0 : 0 ≤ n) (h1 : n ≤ 16) (g : List Gt) (hg : g.length ≤ 300) (o : List Int) (ho : o.length ≤ 16) (d : Nat) : ∀ (i k : Nat), i + d = g.length → d + 20 < k →
  spec_GoodCircuit.l0 k g (g.length : Int) (i : Int) n g o = some (okGates (n + (i : Int)) (g.drop i) && o.all (below (n + (g.length : Int)))) := by
 induction d with
 | zero =>
  intro i k hi hk
  obtain ⟨k, rfl⟩ : ∃ m, k = m + 1 := ⟨k - 1, by omega⟩
  have ew : wrap64 (n + (g.length : Int)) = n + (g.length : Int) := wrap64_id _ (by omega) (by omega)
  have ew2 : wrap64 (n + (g.length : Int) - 1) = n + (g.length : Int) - 1 := wrap64_id _ (by omega) (by omega)
  simp only [spec_GoodCircuit.l0]
  rewrite [if_neg (by omega), List.drop_eq_nil_of_le (by omega)]
  unfold spec_l4Wires.f
  simp only [Option.bind_some]
  rewrite [ew, ew2, l1All_val _ _ (by omega) _ (by omega)]
  rfl
 | succ d ih =>
  intro i k hi hk
  obtain ⟨k, rfl⟩ : ∃ m, k = m + 1 := ⟨k - 1, by omega⟩
  have hit : i < g.length := by omega
  have e1 : wrap64 ((i : Int) + 1) = ((i + 1 : Nat) : Int) := by rw [wrap64_id _ (by omega) (by omega)]; omega
  have e2 : wrap64 (n + (i : Int)) = n + (i : Int) := wrap64_id _ (by omega) (by omega)
  have e3 : n + (i : Int) + 1 = n + ((i + 1 : Nat) : Int) := by omega
  have hd : g.drop i = g[i] :: g.drop (i + 1) := List.drop_eq_getElem_cons hit
  simp only [spec_GoodCircuit.l0]
  rewrite [if_pos (by omega), if_pos (by omega), if_pos (by omega), rdGate_at hit, e2, spec_gate _ _ (by omega) (by omega) _ (by omega), hd, okGates]
  simp only [Option.bind_some]
  cases hb : okGate (n + (i : Int)) g[i] with
  | false => rewrite [if_neg (by decide)]; rfl
  | true => rewrite [if_pos rfl, e1, ih (i + 1) k (by omega) (by omega), e3]; rfl
theorem implCirc_loop (n : Int) (h0 : 0 ≤ n) (h1 : n ≤ 16) (g : List Gt) (hg : g.length ≤ 300) (o : List Int) (d : Nat) : ∀ (i k : Nat), i + d = g.length → d + 20 < k →
  impl_GoodCircuit.l0 k g (g.length : Int) (i : Int) n g o = some (okGates (n + (i : Int)) (g.drop i) && o.all (below (n + (g.length : Int)))) := by
 induction d with
 | zero =>
  intro i k hi hk
  obtain ⟨k, rfl⟩ : ∃ m, k = m + 1 := ⟨k - 1, by omega⟩
  have ew : wrap64 (n + (g.length : Int)) = n + (g.length : Int) := wrap64_id _ (by omega) (by omega)
  simp only [impl_GoodCircuit.l0]
  rewrite [if_neg (by omega), List.drop_eq_nil_of_le (by omega)]
  unfold impl_Circuit_wires.f
  simp only [Option.bind_some]
  rewrite [ew, wiresBelow_val]
  rfl
 | succ d ih =>
  intro i k hi hk
  obtain ⟨k, rfl⟩ : ∃ m, k = m + 1 := ⟨k - 1, by omega⟩
  have hit : i < g.length := by omega
  have e1 : wrap64 ((i : Int) + 1) = ((i + 1 : Nat) : Int) := by rw [wrap64_id _ (by omega) (by omega)]; omega
  have e2 : wrap64 (n + (i : Int)) = n + (i : Int) := wrap64_id _ (by omega) (by omega)
  have e3 : n + (i : Int) + 1 = n + ((i + 1 : Nat) : Int) := by omega
  have hd : g.drop i = g[i] :: g.drop (i + 1) := List.drop_eq_getElem_cons hit
  simp only [impl_GoodCircuit.l0]
  rewrite [if_pos (by omega), if_pos (by omega), if_pos (by omega), rdGate_at hit, e2, impl_gate _ _ _ (by omega), hd, okGates]
  simp only [Option.bind_some]
  cases hb : okGate (n + (i : Int)) g[i] with
  | false => rewrite [if_neg (by decide)]; rfl
  | true => rewrite [if_pos rfl, e1, ih (i + 1) k (by omega) (by omega), e3]; rfl
theorem okCirc_no (n : Int) (g : List Gt) (o : List Int) (h : ¬ (0 ≤ n ∧ n ≤ 16 ∧ g.length ≤ 300 ∧ o.length ≤ 16)) : okCirc n g o = false := by
 unfold okCirc
 rw [decide_eq_false h]; rfl
theorem specCirc_val (n : Int) (g : List Gt) (o : List Int) (k : Nat) (hk : 400 ≤ k) : spec_GoodCircuit.f k n g o = some (okCirc n g o) := by
 obtain ⟨k, rfl⟩ : ∃ m, k = m + 1 := ⟨k - 1, by omega⟩
 unfold spec_GoodCircuit.f spec_l1In.f
 have hj : ∀ m, spec_GoodCircuit.j0 (m + 1) true n g o = some false := by
  intro m
  simp only [spec_GoodCircuit.j0]
  rfl
 by_cases h0 : n ≥ 0
 ·rewrite [if_pos h0]
  simp only [Option.bind_some]
  by_cases h1 : n ≤ 16
  ·rewrite [decide_eq_true h1, if_pos rfl]
   by_cases h2 : (g.length : Int) > 300
   ·rewrite [if_pos h2, hj, okCirc_no n g o (by omega)]; rfl
   ·rewrite [if_neg h2]
    by_cases h3 : (o.length : Int) > 16
    ·rewrite [decide_eq_true h3, hj, okCirc_no n g o (by omega)]; rfl
    ·rewrite [decide_eq_false h3]
     simp only [spec_GoodCircuit.j0]
     have := specCirc_loop n h0 h1 g (by omega) o (by omega) g.length 0 k (by omega) (by omega)
     rewrite [Int.natCast_zero, Int.add_zero, List.drop_zero] at this
     rewrite [if_neg (by decide), this]
     unfold okCirc
     rewrite [decide_eq_true (show 0 ≤ n ∧ n ≤ 16 ∧ g.length ≤ 300 ∧ o.length ≤ 16 from ⟨h0, h1, by omega, by omega⟩)]
     rfl
  ·rewrite [decide_eq_false h1, if_neg (by decide), hj, okCirc_no n g o (by omega)]; rfl
 ·rewrite [if_neg h0]
  simp only [Option.bind_some]
  rewrite [if_neg (by decide), hj, okCirc_no n g o (by omega)]; rfl
theorem implCirc_val (n : Int) (g : List Gt) (o : List Int) (k : Nat) (hk : 400 ≤ k) : impl_GoodCircuit.f k n g o = some (okCirc n g o) := by
 obtain ⟨k, rfl⟩ : ∃ m, k = m + 1 := ⟨k - 1, by omega⟩
 unfold impl_GoodCircuit.f
 have hj : ∀ m, impl_GoodCircuit.j0 (m + 1) true n g o = some false := by
  intro m
  simp only [impl_GoodCircuit.j0]
  rfl
 by_cases h0 : n < 0
 ·rewrite [if_pos h0, hj, okCirc_no n g o (by omega)]; rfl
 ·rewrite [if_neg h0]
  by_cases h1 : n > 16
  ·rewrite [if_pos h1, hj, okCirc_no n g o (by omega)]; rfl
  ·rewrite [if_neg h1]
   by_cases h2 : (g.length : Int) > 300
   ·rewrite [if_pos h2, hj, okCirc_no n g o (by omega)]; rfl
   ·rewrite [if_neg h2]
    by_cases h3 : (o.length : Int) > 16
    ·rewrite [decide_eq_true h3, hj, okCirc_no n g o (by omega)]; rfl
    ·rewrite [decide_eq_false h3]
     simp only [impl_GoodCircuit.j0]
     have := implCirc_loop n (by omega) (by omega) g (by omega) o g.length 0 k (by omega) (by omega)
     rewrite [Int.natCast_zero, Int.add_zero, List.drop_zero] at this
     rewrite [if_neg (by decide), this]
     unfold okCirc
     rewrite [decide_eq_true (show 0 ≤ n ∧ n ≤ 16 ∧ g.length ≤ 300 ∧ o.length ≤ 16 from ⟨by omega, by omega, by omega, by omega⟩)]
     rfl
theorem szCircuit_val (n : Int) (g : List S82) (o : List Int) (hg : g.length ≤ 9223372036854775807) (ho : o.length ≤ 9223372036854775807) :
  laws_szCircuit.f n g o 1048576 = some (if g.length + o.length ≤ 1048576 then 1048576 - (g.length : Int) - (o.length : Int) else -1) := by
 unfold laws_szCircuit.f
 rewrite [szGate_val g 1048576 (by decide) (by decide) hg]
 simp only [Option.bind_some]
 by_cases h : (1048576 : Int) < (g.length : Int)
 ·rewrite [if_pos h, if_pos (by decide), if_neg (by omega)]; rfl
 ·rewrite [if_neg h, if_neg (by omega), szInt_val o _ (by omega) (by omega) ho]
  simp only [Option.bind_some]
  by_cases h2 : 1048576 - (g.length : Int) < (o.length : Int)
  ·rewrite [if_pos h2, if_pos (by decide), if_neg (by omega)]; rfl
  ·rewrite [if_neg h2, if_neg (by omega), if_pos (by omega)]; rfl
theorem toCircuit_val (k : Nat) (n : Int) (g : List S82) (o : List Int) (h : g.length + o.length ≤ 1048576) (hk : g.length + o.length < k) :
  laws_toCircuit.f k n g o = some (n, g.map convGate, o) := by
 unfold laws_toCircuit.f
 rewrite [toGate_val k g (by omega) (by omega)]
 simp only [Option.bind_some]
 rewrite [toInt_val k o (by omega) (by omega)]
 rfl
theorem eqCircuit_val (k : Nat) (n : Int) (g : List Gt) (o : List Int) (h : g.length + o.length ≤ 1048576) (hk : g.length + o.length < k) :
  laws_eqCircuit.f k n g o n g o = some true := by
 unfold laws_eqCircuit.f
 rewrite [if_pos rfl, eqGate_val k g (by omega) (by omega)]
 simp only [Option.bind_some]
 rewrite [if_pos trivial, eqInt_val k o (by omega) (by omega)]
 rfl
end Go.Proofs.Ytimkjhdopncimaa.Pure

namespace Go.Proofs.Ytimkjhdopncimaa.Pure
open Go.RowKit Go.Proofs.Ytimkjhdopncimaa.X Go.Proofs.YtimkjhdopncimaaW.PrintWords Go.Proofs.YtimkjhdopncimaaW.PrintLast Go.Proofs.YtimkjhdopncimaaW.PrintMore Go.Proofs.Ytimkjhdopncimaa.Bits
/-- A list of n elements, numbered on from m. -/
def mkGate (m : Int) : Nat → List S59
 | 0 => []
 | n + 1 => ⟨m, m + 1, m + 2⟩ :: mkGate (m + 3) n
theorem mkGate_len (n : Nat) : ∀ m, (mkGate m n).length = n := by
 induction n with
 | zero => intro m; rfl
 | succ n ih => intro m; simp [mkGate, ih]
theorem mkGate_snoc (n : Nat) : ∀ m, mkGate m (n + 1) = mkGate m n ++ [⟨m + 3 * (n : Int), m + 3 * (n : Int) + 1, m + 3 * (n : Int) + 2⟩] := by
 induction n with
 | zero => intro m; simp [mkGate]
 | succ n ih =>
  intro m
  rw [mkGate, ih (m + 3), mkGate, List.cons_append]
  have : m + 3 + 3 * (n : Int) = m + 3 * ((n + 1 : Nat) : Int) := by omega
  rw [this]
theorem mkGate_at (m : Int) (n i : Nat) (h : i < n) : rd_T59 (mkGate m n) (i : Int) = ⟨m + 3 * (i : Int), m + 3 * (i : Int) + 1, m + 3 * (i : Int) + 2⟩ := by
 induction n generalizing m i with
 | zero => omega
 | succ n ih =>
  cases i with
  | zero => simp [rd_T59, mkGate]
  | succ i =>
   have := ih (m + 3) i (by omega)
   unfold rd_T59 at this ⊢
   rw [Int.toNat_natCast] at this ⊢
   rw [mkGate, List.getD_cons_succ, this]
   have e : m + 3 + 3 * (i : Int) = m + 3 * ((i + 1 : Nat) : Int) := by omega
   rw [e]
theorem markGate_loop (b : Int) (hb : 0 ≤ b) (hb2 : b ≤ 100000000) (l : List S59) (hl : l.length ≤ 1048576) (d : Nat) : ∀ (i k : Nat), i + d = l.length → d < k →
  laws_markGateS.l0 k (mkGate b i ++ l.drop i) (b + 3 * (i : Int)) (i : Int) = some (b + 3 * (l.length : Int), mkGate b l.length) := by
 induction d with
 | zero =>
  intro i k hi hk
  obtain ⟨k, rfl⟩ : ∃ m, k = m + 1 := ⟨k - 1, by omega⟩
  obtain rfl : i = l.length := by omega
  simp only [laws_markGateS.l0]
  rw [if_neg (by simp [mkGate_len]), List.drop_eq_nil_of_le (by omega), List.append_nil]
 | succ d ih =>
  intro i k hi hk
  obtain ⟨k, rfl⟩ : ∃ m, k = m + 1 := ⟨k - 1, by omega⟩
  have hit : i < l.length := by omega
  have e1 : wrap64 ((i : Int) + 1) = ((i + 1 : Nat) : Int) := by rw [wrap64_id _ (by omega) (by omega)]; omega
  have q0 : wrap64 (b + 3 * (i : Int) + 1) = b + 3 * (i : Int) + 1 := by rw [wrap64_id _ (by omega) (by omega)]
  have q1 : wrap64 (b + 3 * (i : Int) + 1 + 1) = b + 3 * (i : Int) + 2 := by rw [wrap64_id _ (by omega) (by omega)]; omega
  have q2 : wrap64 (b + 3 * (i : Int) + 2 + 1) = b + 3 * ((i + 1 : Nat) : Int) := by rw [wrap64_id _ (by omega) (by omega)]; omega
  have hd : l.drop i = l[i] :: l.drop (i + 1) := List.drop_eq_getElem_cons hit
  have hset : ∀ y z : S59, (mkGate b i ++ y :: l.drop (i + 1)).set i z = mkGate b i ++ z :: l.drop (i + 1) := fun y z => set_mid _ _ _ _ _ (by rw [mkGate_len])
  have hrd : ∀ y : S59, rd_T59 (mkGate b i ++ y :: l.drop (i + 1)) (i : Int) = y := by
   intro y
   rw [rdGate_at (by simp [mkGate_len]), List.getElem_append_right (by rw [mkGate_len]; omega)]
   simp [mkGate_len]
  simp only [laws_markGateS.l0]
  rewrite [if_pos (by simp [mkGate_len]; omega), if_pos (by omega)]
  (try simp only [Option.bind_some])
  rewrite [hd, Int.toNat_natCast, hset, hset, hset, hrd, hrd, hrd, e1, q0, q1, q2]
  have := ih (i + 1) k (by omega) (by omega)
  rw [mkGate_snoc, List.append_assoc] at this
  exact this
theorem markGate_val (k : Nat) (b : Int) (hb : 0 ≤ b) (hb2 : b ≤ 100000000) (l : List S59) (hl : l.length ≤ 1048576) (hk : l.length < k) : laws_markGateS.f k l b = some (b + 3 * (l.length : Int), mkGate b l.length) := by
 have := markGate_loop b hb hb2 l hl l.length 0 k (by omega) hk
 unfold laws_markGateS.f
 simpa [mkGate] using this

/-- A list of n elements, numbered on from m. -/
def mkInt (m : Int) : Nat → List Int
 | 0 => []
 | n + 1 => m :: mkInt (m + 1) n
theorem mkInt_len (n : Nat) : ∀ m, (mkInt m n).length = n := by
 induction n with
 | zero => intro m; rfl
 | succ n ih => intro m; simp [mkInt, ih]
theorem mkInt_snoc (n : Nat) : ∀ m, mkInt m (n + 1) = mkInt m n ++ [m + 1 * (n : Int)] := by
 induction n with
 | zero => intro m; simp [mkInt]
 | succ n ih =>
  intro m
  rw [mkInt, ih (m + 1), mkInt, List.cons_append]
  have : m + 1 + 1 * (n : Int) = m + 1 * ((n + 1 : Nat) : Int) := by omega
  rw [this]
theorem mkInt_at (m : Int) (n i : Nat) (h : i < n) : rd (mkInt m n) (i : Int) = m + 1 * (i : Int) := by
 induction n generalizing m i with
 | zero => omega
 | succ n ih =>
  cases i with
  | zero => simp [rd, mkInt]
  | succ i =>
   have := ih (m + 1) i (by omega)
   unfold rd at this ⊢
   rw [Int.toNat_natCast] at this ⊢
   rw [mkInt, List.getD_cons_succ, this]
   have e : m + 1 + 1 * (i : Int) = m + 1 * ((i + 1 : Nat) : Int) := by omega
   rw [e]
theorem markInt_loop (b : Int) (hb : 0 ≤ b) (hb2 : b ≤ 100000000) (l : List Int) (hl : l.length ≤ 1048576) (d : Nat) : ∀ (i k : Nat), i + d = l.length → d < k →
  laws_markIntS.l0 k (mkInt b i ++ l.drop i) (b + 1 * (i : Int)) (i : Int) = some (b + 1 * (l.length : Int), mkInt b l.length) := by
 induction d with
 | zero =>
  intro i k hi hk
  obtain ⟨k, rfl⟩ : ∃ m, k = m + 1 := ⟨k - 1, by omega⟩
  obtain rfl : i = l.length := by omega
  simp only [laws_markIntS.l0]
  rw [if_neg (by simp [mkInt_len]), List.drop_eq_nil_of_le (by omega), List.append_nil]
 | succ d ih =>
  intro i k hi hk
  obtain ⟨k, rfl⟩ : ∃ m, k = m + 1 := ⟨k - 1, by omega⟩
  have hit : i < l.length := by omega
  have e1 : wrap64 ((i : Int) + 1) = ((i + 1 : Nat) : Int) := by rw [wrap64_id _ (by omega) (by omega)]; omega
  have q0 : wrap64 (b + 1 * (i : Int) + 1) = b + 1 * ((i + 1 : Nat) : Int) := by rw [wrap64_id _ (by omega) (by omega)]; omega
  have hd : l.drop i = l[i] :: l.drop (i + 1) := List.drop_eq_getElem_cons hit
  have hset : ∀ y z : Int, (mkInt b i ++ y :: l.drop (i + 1)).set i z = mkInt b i ++ z :: l.drop (i + 1) := fun y z => set_mid _ _ _ _ _ (by rw [mkInt_len])
  simp only [laws_markIntS.l0]
  rewrite [if_pos (by simp [mkInt_len]; omega), if_pos (by omega)]
  (try simp only [Option.bind_some])
  rewrite [hd, Int.toNat_natCast, hset, e1, q0]
  have := ih (i + 1) k (by omega) (by omega)
  rw [mkInt_snoc, List.append_assoc] at this
  exact this
theorem markInt_val (k : Nat) (b : Int) (hb : 0 ≤ b) (hb2 : b ≤ 100000000) (l : List Int) (hl : l.length ≤ 1048576) (hk : l.length < k) : laws_markIntS.f k l b = some (b + 1 * (l.length : Int), mkInt b l.length) := by
 have := markInt_loop b hb hb2 l hl l.length 0 k (by omega) hk
 unfold laws_markIntS.f
 simpa [mkInt] using this

end Go.Proofs.Ytimkjhdopncimaa.Pure

namespace Go.Proofs.Ytimkjhdopncimaa.Pure
open Go.RowKit Go.Proofs.Ytimkjhdopncimaa.X Go.Proofs.YtimkjhdopncimaaW.PrintWords Go.Proofs.YtimkjhdopncimaaW.PrintLast Go.Proofs.YtimkjhdopncimaaW.PrintMore Go.Proofs.Ytimkjhdopncimaa.Bits
theorem heldGate_loop (b : Int) (hb : 0 ≤ b) (hb2 : b ≤ 100000000) (n : Nat) (hn : n ≤ 1048576) (d : Nat) : ∀ (i k : Nat), i + d = n → d < k →
  laws_heldGateS.l0 k (mkGate b n) (b + 3 * (i : Int)) (i : Int) = some (b + 3 * (n : Int)) := by
 induction d with
 | zero =>
  intro i k hi hk
  obtain ⟨k, rfl⟩ : ∃ m, k = m + 1 := ⟨k - 1, by omega⟩
  obtain rfl : i = n := by omega
  simp only [laws_heldGateS.l0]
  rw [if_neg (by rw [mkGate_len]; omega)]
 | succ d ih =>
  intro i k hi hk
  obtain ⟨k, rfl⟩ : ∃ m, k = m + 1 := ⟨k - 1, by omega⟩
  have e1 : wrap64 ((i : Int) + 1) = ((i + 1 : Nat) : Int) := by rw [wrap64_id _ (by omega) (by omega)]; omega
  have q0 : wrap64 (b + 3 * (i : Int) + 1) = b + 3 * (i : Int) + 1 := by rw [wrap64_id _ (by omega) (by omega)]
  have q1 : wrap64 (b + 3 * (i : Int) + 1 + 1) = b + 3 * (i : Int) + 2 := by rw [wrap64_id _ (by omega) (by omega)]; omega
  have q2 : wrap64 (b + 3 * (i : Int) + 2 + 1) = b + 3 * ((i + 1 : Nat) : Int) := by rw [wrap64_id _ (by omega) (by omega)]; omega
  simp only [laws_heldGateS.l0]
  rewrite [if_pos (by rw [mkGate_len]; omega), if_pos (by omega), mkGate_at b n i (by omega), q0, q1, q2]
  rewrite [if_pos (by rfl), if_pos (by rfl), if_pos (by rfl), e1]
  exact ih (i + 1) k (by omega) (by omega)
theorem heldGate_val (k : Nat) (b : Int) (hb : 0 ≤ b) (hb2 : b ≤ 100000000) (n : Nat) (hn : n ≤ 1048576) (hk : n < k) : laws_heldGateS.f k (mkGate b n) b = some (b + 3 * (n : Int)) := by
 have := heldGate_loop b hb hb2 n hn n 0 k (by omega) hk
 unfold laws_heldGateS.f
 simpa using this

theorem heldInt_loop (b : Int) (hb : 0 ≤ b) (hb2 : b ≤ 100000000) (n : Nat) (hn : n ≤ 1048576) (d : Nat) : ∀ (i k : Nat), i + d = n → d < k →
  laws_heldIntS.l0 k (mkInt b n) (b + 1 * (i : Int)) (i : Int) = some (b + 1 * (n : Int)) := by
 induction d with
 | zero =>
  intro i k hi hk
  obtain ⟨k, rfl⟩ : ∃ m, k = m + 1 := ⟨k - 1, by omega⟩
  obtain rfl : i = n := by omega
  simp only [laws_heldIntS.l0]
  rw [if_neg (by rw [mkInt_len]; omega)]
 | succ d ih =>
  intro i k hi hk
  obtain ⟨k, rfl⟩ : ∃ m, k = m + 1 := ⟨k - 1, by omega⟩
  have e1 : wrap64 ((i : Int) + 1) = ((i + 1 : Nat) : Int) := by rw [wrap64_id _ (by omega) (by omega)]; omega
  have q0 : wrap64 (b + 1 * (i : Int) + 1) = b + 1 * ((i + 1 : Nat) : Int) := by rw [wrap64_id _ (by omega) (by omega)]; omega
  simp only [laws_heldIntS.l0]
  rewrite [if_pos (by rw [mkInt_len]; omega), if_pos (by omega), mkInt_at b n i (by omega), q0]
  rewrite [if_pos (by rfl), e1]
  exact ih (i + 1) k (by omega) (by omega)
theorem heldInt_val (k : Nat) (b : Int) (hb : 0 ≤ b) (hb2 : b ≤ 100000000) (n : Nat) (hn : n ≤ 1048576) (hk : n < k) : laws_heldIntS.f k (mkInt b n) b = some (b + 1 * (n : Int)) := by
 have := heldInt_loop b hb hb2 n hn n 0 k (by omega) hk
 unfold laws_heldIntS.f
 simpa using this

end Go.Proofs.Ytimkjhdopncimaa.Pure

namespace Go.Proofs.Ytimkjhdopncimaa.Pure
open Go.RowKit Go.Proofs.Ytimkjhdopncimaa.X Go.Proofs.YtimkjhdopncimaaW.PrintWords Go.Proofs.YtimkjhdopncimaaW.PrintLast Go.Proofs.YtimkjhdopncimaaW.PrintMore Go.Proofs.Ytimkjhdopncimaa.Bits
theorem okCirc_size {n : Int} {g : List Gt} {o : List Int} (h : okCirc n g o = true) : 0 ≤ n ∧ n ≤ 16 ∧ g.length ≤ 300 ∧ o.length ≤ 16 := by
 by_cases hc : 0 ≤ n ∧ n ≤ 16 ∧ g.length ≤ 300 ∧ o.length ≤ 16
 ·exact hc
 ·rw [okCirc_no n g o hc] at h
  cases h
theorem markCircuit_val (k : Nat) (b n : Int) (hb : 0 ≤ b) (hb2 : b ≤ 1000000) (g : List Gt) (o : List Int) (h : g.length + o.length ≤ 1048576) (hk : g.length + o.length < k) :
  laws_markCircuit.f k n g o b = some (b + 3 * (g.length : Int) + 1 * (o.length : Int), mkGate b g.length, mkInt (b + 3 * (g.length : Int)) o.length) := by
 unfold laws_markCircuit.f
 rewrite [markGate_val k b hb (by omega) g (by omega) (by omega)]
 simp only [Option.bind_some]
 rewrite [markInt_val k _ (by omega) (by omega) o (by omega) (by omega)]
 rfl
theorem heldCircuit_val (k : Nat) (b n : Int) (hb : 0 ≤ b) (hb2 : b ≤ 1000000) (gl ol : Nat) (h : gl + ol ≤ 1048576) (hk : gl + ol < k) :
  laws_heldCircuit.f k n (mkGate b gl) (mkInt (b + 3 * (gl : Int)) ol) b = some (b + 3 * (gl : Int) + 1 * (ol : Int)) := by
 unfold laws_heldCircuit.f
 rewrite [heldGate_val k b hb (by omega) gl (by omega) (by omega)]
 simp only [Option.bind_some]
 rewrite [if_neg (by omega), heldInt_val k _ (by omega) (by omega) ol (by omega) (by omega)]
 simp only [Option.bind_some]
 rw [if_neg (by omega)]
end Go.Proofs.Ytimkjhdopncimaa.Pure

namespace Go.Proofs.Ytimkjhdopncimaa.Pure
open Go.RowKit Go.Proofs.Ytimkjhdopncimaa.X Go.Proofs.YtimkjhdopncimaaW.PrintWords Go.Proofs.YtimkjhdopncimaaW.PrintLast Go.Proofs.YtimkjhdopncimaaW.PrintMore Go.Proofs.Ytimkjhdopncimaa.Bits
theorem below_is {w x : Int} (h : below w x = true) : 0 ≤ x ∧ x < w := by
 unfold below at h
 simpa using h
theorem okGate_uses {w : Int} {g : Gt} (h : okGate w g = true) : (g.f0 = 1 ∨ g.f0 = 2 ∨ (g.f0 ≠ 1 ∧ g.f0 ≠ 2 ∧ 2 < g.f0)) ∧ ∀ u ∈ cnUses g, 0 ≤ u ∧ u < w := by
 unfold okGate at h
 unfold cnUses
 split at h
 ·rename_i h1
  exact ⟨.inl h1, fun u hu => by rw [if_pos h1] at hu; cases hu⟩
 ·rename_i h1
  split at h
  ·rename_i h2
   rw [Bool.and_eq_true] at h
   refine ⟨.inr (.inl h2), fun u hu => ?_⟩
   rw [if_neg h1, if_pos h2] at hu
   rw [List.mem_singleton.1 hu]
   exact below_is h.1
  ·rename_i h2
   split at h
   ·rename_i h3
    rw [Bool.and_eq_true] at h
    refine ⟨.inr (.inr ⟨h1, h2, by omega⟩), fun u hu => ?_⟩
    rw [if_neg h1, if_neg h2] at hu
    rcases List.mem_cons.1 hu with rfl | hu
    ·exact below_is h.1
    ·rw [List.mem_singleton.1 hu]; exact below_is h.2
   ·cases h
theorem okGates_at (g : List Gt) : ∀ (w : Int) (kk : Nat) (h : kk < g.length), okGates w g = true → okGate (w + kk) g[kk] = true := by
 induction g with
 | nil => intro w kk h; exact absurd h (by simp)
 | cons x t ih =>
  intro w kk h ho
  rw [okGates, Bool.and_eq_true] at ho
  cases kk with
  | zero => simpa using ho.1
  | succ kk =>
   have := ih (w + 1) kk (by simpa using h) ho.2
   rw [List.getElem_cons_succ, show w + ((kk + 1 : Nat) : Int) = w + 1 + (kk : Int) by omega]
   exact this
theorem okCirc_parts {n : Int} {g : List Gt} {o : List Int} (h : okCirc n g o = true) : 0 ≤ n ∧ n ≤ 16 ∧ g.length ≤ 300 ∧ o.length ≤ 16 ∧ okGates n g = true ∧ o.all (below (n + (g.length : Int))) = true := by
 obtain ⟨h1, h2, h3, h4⟩ := okCirc_size h
 unfold okCirc at h
 simp only [Bool.and_eq_true] at h
 exact ⟨h1, h2, h3, h4, h.2.1, h.2.2⟩
theorem cnMark_len' (ws : List Int) : ∀ b, (cnMark b ws).length = b.length := by
 induction ws with
 | nil => intro b; rfl
 | cons x t ih => intro b; exact (ih _).trans List.length_set
/-- Marks lie at the wires that are marked alone. -/
theorem cnMark_far (ws : List Int) (i : Nat) : ∀ b, (∀ u ∈ ws, u.toNat ≠ i) → (cnMark b ws)[i]? = b[i]? := by
 induction ws with
 | nil => intro b _; rfl
 | cons x t ih =>
  intro b h
  refine (ih _ (fun u hu => h u (List.mem_cons_of_mem _ hu))).trans ?_
  exact List.getElem?_set_ne (h x List.mem_cons_self)
/-- What wire m hands on. -/
def stepW (n : Int) (g : List Gt) (m : Nat) (b : List Bool) : List Bool :=
 if rdOf false b (m : Int) = true then (if n ≤ (m : Int) then cnMark b (cnUses (rd_T59 g ((m : Int) - n))) else b) else b
theorem stepW_len (n : Int) (g : List Gt) (m : Nat) (b : List Bool) : (stepW n g m b).length = b.length := by
 unfold stepW
 split
 ·split
  ·exact cnMark_len' _ _
  ·rfl
 ·rfl
def coneD (n : Int) (g : List Gt) : Nat → List Bool → List Bool
 | 0, b => b
 | m + 1, b => coneD n g m (stepW n g m b)
def coneO (n : Int) (g : List Gt) : Nat → List Bool → List Int → List Int
 | 0, _, out => out
 | m + 1, b, out => coneO n g m (stepW n g m b) (if rdOf false b (m : Int) = true then (m : Int) :: out else out)
theorem coneD_len (n : Int) (g : List Gt) (m : Nat) : ∀ b, (coneD n g m b).length = b.length := by
 induction m with
 | zero => intro b; rfl
 | succ m ih => intro b; exact (ih _).trans (stepW_len _ _ _ _)
theorem uses_at {n : Int} {g : List Gt} (hok : okGates n g = true) {m : Nat} (h0 : n ≤ (m : Int)) (h1 : (m : Int) < n + (g.length : Int)) : okGate (m : Int) (rd_T59 g ((m : Int) - n)) = true := by
 obtain ⟨j, hj⟩ : ∃ j : Nat, (m : Int) - n = (j : Int) := ⟨((m : Int) - n).toNat, by omega⟩
 have hl : j < g.length := by omega
 have := okGates_at g n j hl hok
 rw [hj, rdGate_at hl]
 rwa [show n + (j : Int) = (m : Int) by omega] at this
theorem stepW_far {n : Int} {g : List Gt} (hok : okGates n g = true) {m i : Nat} (h1 : (m : Int) < n + (g.length : Int)) (hi : m ≤ i) (b : List Bool) : (stepW n g m b)[i]? = b[i]? := by
 unfold stepW
 split
 ·split
  ·rename_i _ h0
   refine cnMark_far _ _ _ (fun u hu => ?_)
   have := (okGate_uses (uses_at hok h0 h1)).2 u hu
   omega
  ·rfl
 ·rfl
theorem coneD_far {n : Int} {g : List Gt} (hok : okGates n g = true) (m : Nat) : ∀ (i : Nat) (b : List Bool), (m : Int) ≤ n + (g.length : Int) → m ≤ i → (coneD n g m b)[i]? = b[i]? := by
 induction m with
 | zero => intro i b _ _; rfl
 | succ m ih =>
  intro i b h1 hi
  exact (ih i _ (by omega) (by omega)).trans (stepW_far hok (by omega) (by omega) b)
/-- The marked wires below m. -/
def marked (f : List Bool) : Nat → List Int
 | 0 => []
 | m + 1 => marked f m ++ (if rdOf false f (m : Int) = true then [(m : Int)] else [])
theorem coneO_marked {n : Int} {g : List Gt} (hok : okGates n g = true) (m : Nat) : ∀ (b : List Bool) (out : List Int), (m : Int) ≤ n + (g.length : Int) → coneO n g m b out = marked (coneD n g m b) m ++ out := by
 induction m with
 | zero => intro b out _; rfl
 | succ m ih =>
  intro b out h1
  have e : rdOf false (coneD n g m (stepW n g m b)) (m : Int) = rdOf false b (m : Int) := by
   unfold rdOf
   rw [Int.toNat_natCast, List.getD_eq_getElem?_getD, List.getD_eq_getElem?_getD, coneD_far hok m m _ (by omega) (Nat.le_refl _), stepW_far hok (by omega) (Nat.le_refl _) b]
  rw [coneO, ih _ _ (by omega), coneD, marked, e]
  split
  ·rw [List.append_assoc]; rfl
  ·rw [List.append_nil]
theorem marked_len (f : List Bool) (m : Nat) : (marked f m).length ≤ m := by
 induction m with
 | zero => exact Nat.le_refl _
 | succ m ih =>
  rw [marked, List.length_append]
  split
  ·simp; omega
  ·simp; omega
theorem marked_mem (f : List Bool) (m : Nat) (x : Int) : x ∈ marked f m ↔ 0 ≤ x ∧ x < (m : Int) ∧ rdOf false f x = true := by
 induction m with
 | zero => exact ⟨fun h => (by cases h), fun h => (by omega)⟩
 | succ m ih =>
  rw [marked, List.mem_append, ih]
  constructor
  ·rintro (⟨h0, h1, h2⟩ | h)
   ·exact ⟨h0, by omega, h2⟩
   ·split at h
    ·rename_i hm
     rw [List.mem_singleton.1 h]
     exact ⟨by omega, by omega, hm⟩
    ·cases h
  ·rintro ⟨h0, h1, h2⟩
   by_cases hx : x = (m : Int)
   ·subst hx
    rw [if_pos h2]
    exact .inr (List.mem_singleton.2 rfl)
   ·exact .inl ⟨h0, by omega, h2⟩
theorem put_front (l : List Int) (m : Int) (h : ∀ x ∈ l, m < x) (hl : l.length ≤ 1000000) (k : Nat) (hk : 1 ≤ k) : spec_l1Put.f k l m = some (m :: l) := by
 obtain ⟨k, rfl⟩ : ∃ j, k = j + 1 := ⟨k - 1, by omega⟩
 unfold spec_l1Put.f
 simp only [spec_l1Put.l0]
 cases l with
 | nil => rfl
 | cons x t =>
  have hx := h x List.mem_cons_self
  have e : rd (x :: t) 0 = x := rfl
  rw [if_pos (by simp), if_pos (by omega), e, if_neg (by omega), if_neg (by omega)]
  simp only [Option.bind_some, List.nil_append, Int.toNat_zero, List.take_zero, List.drop_zero, List.length_nil, List.length_cons]
  simp only [List.length_cons] at hl
  rw [if_pos (by omega), if_pos (by omega), if_pos (by omega), if_pos (by omega)]
  rfl
theorem specWires_val (n : Int) (g : List Gt) (o : List Int) (h0 : 0 ≤ n) (h1 : n ≤ 16) (h2 : g.length ≤ 300) : spec_l4Wires.f n g o = some (n + (g.length : Int)) := by
 unfold spec_l4Wires.f; rw [wrap64_id _ (by omega) (by omega)]
theorem implWires_val (n : Int) (g : List Gt) (o : List Int) (h0 : 0 ≤ n) (h1 : n ≤ 16) (h2 : g.length ≤ 300) : impl_Circuit_wires.f n g o = some (n + (g.length : Int)) := by
 unfold impl_Circuit_wires.f; rw [wrap64_id _ (by omega) (by omega)]
theorem cone_l1 {n : Int} {g : List Gt} {o : List Int} (h0 : 0 ≤ n) (h1 : n ≤ 16) (hok : okGates n g = true) (m : Nat) : ∀ (k : Nat) (b : List Bool) (out : List Int) (x : Int), x = (m : Int) - 1 → (m : Int) ≤ n + (g.length : Int) →
  (b.length : Int) = n + (g.length : Int) → (∀ y ∈ out, (m : Int) ≤ y) → out.length + m ≤ 1000 → 2 * m + 1 ≤ k → spec_l4Cone.l1 k b out x n g o = some (coneO n g m b out) := by
 induction m with
 | zero =>
  rintro k b out x rfl _ _ _ _ hk
  obtain ⟨k, rfl⟩ : ∃ j, k = j + 1 := ⟨k - 1, by omega⟩
  simp only [spec_l4Cone.l1]
  rw [if_neg (by omega)]; rfl
 | succ m ih =>
  rintro k b out x rfl hm hb ho hl hk
  obtain ⟨k, rfl⟩ : ∃ j, k = j + 1 + 1 := ⟨k - 2, by omega⟩
  have ex : ((m + 1 : Nat) : Int) - 1 = (m : Int) := by omega
  have ew : wrap64 ((m : Int) - 1) = (m : Int) - 1 := wrap64_id _ (by omega) (by omega)
  rw [ex]
  simp only [spec_l4Cone.l1]
  rewrite [if_pos (by omega), if_pos (by omega), if_pos (by omega), ew]
  by_cases hbm : rdOf false b (m : Int) = true
  ·rewrite [if_pos hbm, put_front out (m : Int) (fun y hy => by have := ho y hy; omega) (by omega) _ (by omega)]
   simp only [Option.bind_some]
   have hout : ∀ y ∈ (m : Int) :: out, (m : Int) ≤ y := by
    intro y hy
    rcases List.mem_cons.1 hy with rfl | hy
    ·exact Int.le_refl _
    ·have := ho y hy; omega
   have hsl := (stepW_len n g m b)
   have e2 : coneO n g (m + 1) b out = coneO n g m (stepW n g m b) ((m : Int) :: out) := by rw [coneO, if_pos hbm]
   rewrite [e2]
   by_cases hge : (m : Int) ≥ n
   ·have ewn : wrap64 ((m : Int) - n) = (m : Int) - n := wrap64_id _ (by omega) (by omega)
    rewrite [if_pos hge, ewn, if_pos (by omega), if_pos (by omega)]
    simp only [spec_l4Cone.j2]
    rewrite [ewn, ew]
    have hu := okGate_uses (uses_at hok (m := m) hge (by omega))
    have est : stepW n g m b = cnMark b (cnUses (rd_T59 g ((m : Int) - n))) := by unfold stepW; rw [if_pos hbm, if_pos hge]
    obtain ⟨q, hq⟩ : ∃ q, rd_T59 g ((m : Int) - n) = q := ⟨_, rfl⟩
    rewrite [est, hq]
    rw [hq] at hu est
    obtain ⟨hk3, hu⟩ := hu
    rcases hk3 with h3 | h3 | ⟨h3, h4, h5⟩
    ·have eu : cnUses q = [] := by unfold cnUses; rw [if_pos h3]
     have eb : (q.f0 != 1) = false := by rw [h3]; rfl
     rewrite [eb, eu, if_neg (by decide)]
     exact ih k b _ _ rfl (by omega) hb hout (by simp; omega) (by omega)
    ·have eu : cnUses q = [q.f1] := by unfold cnUses; rw [if_neg (by omega), if_pos h3]
     have eb : (q.f0 != 1) = true := by rw [h3]; rfl
     have hf := hu q.f1 (by rw [eu]; exact List.mem_singleton.2 rfl)
     rewrite [eb, eu, if_pos rfl, if_pos (by omega), if_pos (by omega), if_pos (by omega), if_pos (by omega)]
     simp only [Option.bind_some]
     rewrite [if_pos h3]
     exact ih k _ _ _ rfl (by omega) (by rw [List.length_set]; exact hb) hout (by simp; omega) (by omega)
    ·have eu : cnUses q = [q.f1, q.f2] := by unfold cnUses; rw [if_neg h3, if_neg h4]
     have eb : (q.f0 != 1) = true := bne_iff_ne.mpr h3
     have hf := hu q.f1 (by rw [eu]; exact List.mem_cons_self)
     have hf2 := hu q.f2 (by rw [eu]; exact List.mem_cons_of_mem _ (List.mem_singleton.2 rfl))
     rewrite [eb, eu, if_pos rfl, if_pos (by omega), if_pos (by omega), if_pos (by omega), if_pos (by omega)]
     simp only [Option.bind_some]
     rewrite [if_neg h4, if_pos (by omega), if_pos (by omega)]
     exact ih k _ _ _ rfl (by omega) (by rw [List.length_set, List.length_set]; exact hb) hout (by simp; omega) (by omega)
   ·rewrite [if_neg hge]
    simp only [spec_l4Cone.j2]
    have est : stepW n g m b = b := by unfold stepW; rw [if_pos hbm, if_neg hge]
    rewrite [if_neg (by decide), ew, est]
    exact ih k b _ _ rfl (by omega) hb hout (by simp; omega) (by omega)
  ·have est : stepW n g m b = b := by unfold stepW; rw [if_neg hbm]
   have e2 : coneO n g (m + 1) b out = coneO n g m b out := by rw [coneO, if_neg hbm, est]
   rewrite [if_neg hbm, e2]
   exact ih (k + 1) b out _ rfl (by omega) hb (fun y hy => by have := ho y hy; omega) (by omega) (by omega)
theorem cnMark_drop (b : List Bool) (ws : List Int) (i : Nat) (h : i < ws.length) : cnMark b (ws.drop i) = cnMark (b.set (ws[i]).toNat true) (ws.drop (i + 1)) := by
 rw [List.drop_eq_getElem_cons h]; rfl
theorem cone_l0 {n : Int} {g : List Gt} {o : List Int} (h0 : 0 ≤ n) (h1 : n ≤ 16) (h2 : g.length ≤ 300) (hok : okGates n g = true) (ws : List Int) (hw : ∀ u ∈ ws, 0 ≤ u ∧ u < n + (g.length : Int)) (hwl : ws.length ≤ 1000) (d : Nat) : ∀ (i k : Nat) (b : List Bool), i + d = ws.length →
  (b.length : Int) = n + (g.length : Int) → 2 * (n + (g.length : Int)).toNat + 2 + d ≤ k → spec_l4Cone.l0 k b ws (ws.length : Int) (i : Int) n g o = some (coneO n g (n + (g.length : Int)).toNat (cnMark b (ws.drop i)) []) := by
 induction d with
 | zero =>
  intro i k b hi hb hk
  obtain ⟨k, rfl⟩ : ∃ j, k = j + 1 := ⟨k - 1, by omega⟩
  simp only [spec_l4Cone.l0]
  rewrite [if_neg (by omega), List.drop_eq_nil_of_le (by omega)]
  exact cone_l1 h0 h1 hok _ k b [] _ (by rw [wrap64_id _ (by omega) (by omega)]; omega) (by omega) hb (fun y hy => by cases hy) (by simp; omega) (by omega)
 | succ d ih =>
  intro i k b hi hb hk
  obtain ⟨k, rfl⟩ : ∃ j, k = j + 1 := ⟨k - 1, by omega⟩
  have hit : i < ws.length := by omega
  have e1 : wrap64 ((i : Int) + 1) = ((i + 1 : Nat) : Int) := by rw [wrap64_id _ (by omega) (by omega)]; omega
  have hu := hw ws[i] (List.getElem_mem hit)
  simp only [spec_l4Cone.l0]
  rewrite [if_pos (by omega), if_pos (by omega), if_pos (by omega), rdInt_at hit, if_pos (by omega), if_pos (by omega), e1, cnMark_drop b ws i hit]
  exact ih (i + 1) k _ (by omega) (by rw [List.length_set]; exact hb) (by omega)
def coneF (n : Int) (g : List Gt) (ws : List Int) : List Bool := coneD n g (n + (g.length : Int)).toNat (cnMark (List.replicate (n + (g.length : Int)).toNat false) ws)
theorem coneF_len (n : Int) (g : List Gt) (ws : List Int) : (coneF n g ws).length = (n + (g.length : Int)).toNat := by
 unfold coneF
 rw [coneD_len, cnMark_len', List.length_replicate]
theorem cone_spec {n : Int} {g : List Gt} {o : List Int} (h0 : 0 ≤ n) (h1 : n ≤ 16) (h2 : g.length ≤ 300) (hok : okGates n g = true) (ws : List Int) (hw : ∀ u ∈ ws, 0 ≤ u ∧ u < n + (g.length : Int)) (hwl : ws.length ≤ 1000) (k : Nat) (hk : 2000 ≤ k) :
  spec_l4Cone.f k n g o ws = some (marked (coneF n g ws) (n + (g.length : Int)).toNat) := by
 unfold spec_l4Cone.f
 rewrite [specWires_val n g o h0 h1 h2]
 simp only [Option.bind_some]
 rewrite [if_pos (by omega), if_pos (by omega)]
 have := cone_l0 (o := o) h0 h1 h2 hok ws hw hwl ws.length 0 k (List.replicate (n + (g.length : Int)).toNat false) (by omega) (by rw [List.length_replicate]; omega) (by omega)
 rw [List.drop_zero, coneO_marked hok _ _ _ (by omega), List.append_nil] at this
 exact this
theorem cnRev_snoc (l : List Gt) (x : Gt) : cnRev (l ++ [x]) = ((l.length : Int), x) :: cnRev l := by
 unfold cnRev
 rw [List.zipIdx_append, List.reverse_append, List.map_append]
 simp
theorem coneD_low {n : Int} {g : List Gt} (m : Nat) : ∀ b, (m : Int) ≤ n → coneD n g m b = b := by
 induction m with
 | zero => intro b _; rfl
 | succ m ih =>
  intro b h
  have : stepW n g m b = b := by
   unfold stepW
   split
   ·rw [if_neg (by omega)]
   ·rfl
  rw [coneD, this, ih b (by omega)]
theorem rev_coneD {n : Int} {g : List Gt} (h0 : 0 ≤ n) (j : Nat) : ∀ (b : List Bool), j ≤ g.length → (cnRev (g.take j)).foldl (cnStep n) b = coneD n g (n + (j : Int)).toNat b := by
 induction j with
 | zero =>
  intro b _
  rw [coneD_low _ b (by omega)]; rfl
 | succ j ih =>
  intro b h
  have hj : j < g.length := by omega
  have e : (n + ((j + 1 : Nat) : Int)).toNat = (n + (j : Int)).toNat + 1 := by omega
  have em : (((n + (j : Int)).toNat : Nat) : Int) = n + (j : Int) := by omega
  rw [List.take_add_one, List.getElem?_eq_getElem hj, Option.toList_some, cnRev_snoc, List.foldl_cons, e, coneD, ih _ (by omega), List.length_take, Nat.min_eq_left (by omega)]
  congr 1
  unfold cnStep stepW
  rw [em]
  dsimp only
  split
  ·rw [if_pos (by omega), show n + (j : Int) - n = (j : Int) by omega, rdGate_at hj]
  ·rfl
theorem cone_impl {n : Int} {g : List Gt} {o : List Int} (h0 : 0 ≤ n) (h1 : n ≤ 16) (h2 : g.length ≤ 300) (hok : okGates n g = true) (ws : List Int) (hw : ∀ u ∈ ws, 0 ≤ u ∧ u < n + (g.length : Int)) :
  impl_Circuit_coneOf.f n g o ws = some (coneF n g ws) := by
 have hc : cnOk n g ws = true := by
  unfold cnOk
  simp only [Bool.and_eq_true, decide_eq_true_eq, List.all_eq_true]
  refine ⟨h0, by omega, by omega, fun x hx u hu => ?_, fun u hu => ?_⟩
  ·obtain ⟨j, hj, rfl⟩ := List.getElem_of_mem hx
   have := (okGate_uses (okGates_at g n j hj hok)).2 u hu
   unfold cnIn
   rw [decide_eq_true (show 0 ≤ u by omega), decide_eq_true (show u < n + (g.length : Int) by omega)]; rfl
  ·have := hw u hu
   unfold cnIn
   rw [decide_eq_true this.1, decide_eq_true this.2]; rfl
 unfold impl_Circuit_coneOf.f
 rw [if_pos hc]
 have := rev_coneD (g := g) h0 g.length (cnMark (List.replicate (n + (g.length : Int)).toNat false) ws) (Nat.le_refl _)
 rw [List.take_length] at this
 rw [this]
 rfl
end Go.Proofs.Ytimkjhdopncimaa.Pure

namespace Go.Proofs.Ytimkjhdopncimaa.Pure
open Go.RowKit Go.Proofs.Ytimkjhdopncimaa.X Go.Proofs.YtimkjhdopncimaaW.PrintWords Go.Proofs.YtimkjhdopncimaaW.PrintLast Go.Proofs.YtimkjhdopncimaaW.PrintMore Go.Proofs.Ytimkjhdopncimaa.Bits
/-- The inputs keep their numbers. -/
def numI (T : Nat) : Nat → List Int
 | 0 => List.replicate T 0
 | m + 1 => (numI T m).set m (m : Int)
theorem numI_len (T m : Nat) : (numI T m).length = T := by
 induction m with
 | zero => exact List.length_replicate
 | succ m ih => rw [numI, List.length_set, ih]
/-- A gate with its wires' new numbers. -/
def newG (at_ : List Int) (g : Gt) : Gt := ⟨g.f0, if g.f0 = 1 then g.f1 else rd at_ g.f1, if 2 < g.f0 then rd at_ g.f2 else g.f2⟩
def pruneN (n : Int) (f : List Bool) (g : List Gt) : Nat → List Int × List Gt
 | 0 => (numI f.length n.toNat, [])
 | j + 1 => if rdOf false f (n + (j : Int)) = true then (((pruneN n f g j).1.set (n + (j : Int)).toNat (n + ((pruneN n f g j).2.length : Int))), (pruneN n f g j).2 ++ [newG (pruneN n f g j).1 (rd_T59 g (j : Int))]) else pruneN n f g j
theorem pruneN_len (n : Int) (f : List Bool) (g : List Gt) (j : Nat) : (pruneN n f g j).1.length = f.length ∧ (pruneN n f g j).2.length ≤ j := by
 induction j with
 | zero => exact ⟨numI_len _ _, Nat.le_refl _⟩
 | succ j ih =>
  rw [pruneN]
  split
  ·exact ⟨by rw [List.length_set]; exact ih.1, by rw [List.length_append]; have := ih.2; simp; omega⟩
  ·exact ⟨ih.1, by omega⟩
theorem has_loop (x : Int) (l : List Int) (hl : l.length ≤ 1000) (d : Nat) : ∀ (i k : Nat), i + d = l.length → d < k → spec_l1Has.l0 k x l (l.length : Int) (i : Int) = some (decide (x ∈ l.drop i)) := by
 induction d with
 | zero =>
  intro i k hi hk
  obtain ⟨k, rfl⟩ : ∃ m, k = m + 1 := ⟨k - 1, by omega⟩
  simp only [spec_l1Has.l0]
  rw [if_neg (by omega), List.drop_eq_nil_of_le (by omega)]; rfl
 | succ d ih =>
  intro i k hi hk
  obtain ⟨k, rfl⟩ : ∃ m, k = m + 1 := ⟨k - 1, by omega⟩
  have hit : i < l.length := by omega
  have e1 : wrap64 ((i : Int) + 1) = ((i + 1 : Nat) : Int) := by rw [wrap64_id _ (by omega) (by omega)]; omega
  have hd : l.drop i = l[i] :: l.drop (i + 1) := List.drop_eq_getElem_cons hit
  simp only [spec_l1Has.l0]
  rewrite [if_pos (by omega), if_pos (by omega), if_pos (by omega), rdInt_at hit, e1, hd]
  by_cases hx : l[i] = x
  ·rewrite [if_pos hx, decide_eq_true (by rw [hx]; exact List.mem_cons_self)]; rfl
  ·rewrite [if_neg hx, ih (i + 1) k (by omega) (by omega)]
   congr 1
   exact decide_eq_decide.mpr ⟨fun h => List.mem_cons_of_mem _ h, fun h => (List.mem_cons.1 h).resolve_left (fun e => hx e.symm)⟩
theorem has_marked (f : List Bool) (m : Nat) (hm : m ≤ 1000) (x : Int) (h0 : 0 ≤ x) (h1 : x < (m : Int)) (k : Nat) (hk : 1001 ≤ k) : spec_l1Has.f k (marked f m) x = some (rdOf false f x) := by
 have hl := marked_len f m
 unfold spec_l1Has.f
 refine (has_loop x (marked f m) (by omega) (marked f m).length 0 k (by omega) (by omega)).trans ?_
 rw [List.drop_zero]
 congr 1
 cases hb : rdOf false f x with
 | true => exact decide_eq_true ((marked_mem f m x).2 ⟨h0, h1, hb⟩)
 | false => exact decide_eq_false (fun h => by have := ((marked_mem f m x).1 h).2.2; rw [hb] at this; cases this)
theorem outs_spec (at_ : List Int) (n : Int) (gs : List Gt) (o : List Int) (ho : ∀ u ∈ o, 0 ≤ u ∧ u < (at_.length : Int)) (hol : o.length ≤ 16) (d : Nat) : ∀ (i k : Nat), i + d = o.length → d < k →
  spec_PruneCircuit.l2 k at_ o (o.length : Int) (i : Int) n gs ((o.take i).map (rd at_)) = some (n, gs, o.map (rd at_), true) := by
 induction d with
 | zero =>
  intro i k hi hk
  obtain ⟨k, rfl⟩ : ∃ m, k = m + 1 := ⟨k - 1, by omega⟩
  obtain rfl : i = o.length := by omega
  simp only [spec_PruneCircuit.l2]
  rw [if_neg (by omega), List.take_length]
 | succ d ih =>
  intro i k hi hk
  obtain ⟨k, rfl⟩ : ∃ m, k = m + 1 := ⟨k - 1, by omega⟩
  have hit : i < o.length := by omega
  have e1 : wrap64 ((i : Int) + 1) = ((i + 1 : Nat) : Int) := by rw [wrap64_id _ (by omega) (by omega)]; omega
  have hu := ho o[i] (List.getElem_mem hit)
  have h2 := ih (i + 1) k (by omega) (by omega)
  rw [List.take_add_one, List.getElem?_eq_getElem hit, Option.toList_some, List.map_append] at h2
  simp only [spec_PruneCircuit.l2]
  rewrite [if_pos (by omega), if_pos (by omega), if_pos (by omega), rdInt_at hit, if_pos (by omega), if_pos (by omega), if_pos (by rw [List.length_map, List.length_take]; omega), e1]
  exact h2
theorem outs_impl (at_ : List Int) (n : Int) (gs : List Gt) (o : List Int) (ho : ∀ u ∈ o, 0 ≤ u ∧ u < (at_.length : Int)) (hol : o.length ≤ 16) (d : Nat) : ∀ (i k : Nat), i + d = o.length → d < k →
  impl_PruneCircuit.l2 k at_ o (o.length : Int) (i : Int) n gs ((o.take i).map (rd at_)) = some (n, gs, o.map (rd at_), true) := by
 induction d with
 | zero =>
  intro i k hi hk
  obtain ⟨k, rfl⟩ : ∃ m, k = m + 1 := ⟨k - 1, by omega⟩
  obtain rfl : i = o.length := by omega
  simp only [impl_PruneCircuit.l2]
  rw [if_neg (by omega), List.take_length]
 | succ d ih =>
  intro i k hi hk
  obtain ⟨k, rfl⟩ : ∃ m, k = m + 1 := ⟨k - 1, by omega⟩
  have hit : i < o.length := by omega
  have e1 : wrap64 ((i : Int) + 1) = ((i + 1 : Nat) : Int) := by rw [wrap64_id _ (by omega) (by omega)]; omega
  have hu := ho o[i] (List.getElem_mem hit)
  have h2 := ih (i + 1) k (by omega) (by omega)
  rw [List.take_add_one, List.getElem?_eq_getElem hit, Option.toList_some, List.map_append] at h2
  simp only [impl_PruneCircuit.l2]
  rewrite [if_pos (by omega), if_pos (by omega), if_pos (by omega), rdInt_at hit, if_pos (by omega), if_pos (by omega), if_pos (by rw [List.length_map, List.length_take]; omega), e1]
  exact h2
def pruneE (n : Int) (f : List Bool) (g : List Gt) (o : List Int) : Int × List Gt × List Int × Bool := (n, (pruneN n f g g.length).2, o.map (rd (pruneN n f g g.length).1), true)
theorem gates_spec {n : Int} {g : List Gt} {o : List Int} {f : List Bool} (h0 : 0 ≤ n) (h1 : n ≤ 16) (h2 : g.length ≤ 300) (h3 : o.length ≤ 16) (hok : okGates n g = true) (hfl : (f.length : Int) = n + (g.length : Int)) (ho : ∀ u ∈ o, 0 ≤ u ∧ u < (f.length : Int)) (d : Nat) : ∀ (i k : Nat), i + d = g.length → d + 1100 ≤ k →
  spec_PruneCircuit.l1 k (pruneN n f g i).1 (marked f f.length) g (g.length : Int) (i : Int) n g o n (pruneN n f g i).2 = some (pruneE n f g o) := by
 induction d with
 | zero =>
  intro i k hi hk
  obtain ⟨k, rfl⟩ : ∃ m, k = m + 1 := ⟨k - 1, by omega⟩
  obtain rfl : i = g.length := by omega
  have hl := pruneN_len n f g g.length
  simp only [spec_PruneCircuit.l1]
  rw [if_neg (by omega)]
  have := outs_spec (pruneN n f g g.length).1 n (pruneN n f g g.length).2 o (by rw [hl.1]; exact ho) h3 o.length 0 k (by omega) (by omega)
  exact this
 | succ d ih =>
  intro i k hi hk
  obtain ⟨k, rfl⟩ : ∃ m, k = m + 1 := ⟨k - 1, by omega⟩
  have hit : i < g.length := by omega
  have e1 : wrap64 ((i : Int) + 1) = ((i + 1 : Nat) : Int) := by rw [wrap64_id _ (by omega) (by omega)]; omega
  have e2 : wrap64 (n + (i : Int)) = n + (i : Int) := wrap64_id _ (by omega) (by omega)
  have hl := pruneN_len n f g i
  have hn := ih (i + 1) k (by omega) (by omega)
  rw [pruneN] at hn
  have hu := okGate_uses (okGates_at g n i hit hok)
  simp only [spec_PruneCircuit.l1]
  rewrite [if_pos (by omega), if_pos (by omega), if_pos (by omega), e2, e1, has_marked f f.length (by omega) _ (by omega) (by omega) k (by omega)]
  simp only [Option.bind_some]
  by_cases hb : rdOf false f (n + (i : Int)) = true
  ·rw [if_pos hb] at hn
   rewrite [if_pos hb]
   rw [rdGate_at hit] at hn ⊢
   obtain ⟨q, hq⟩ : ∃ q, g[i] = q := ⟨_, rfl⟩
   rw [hq] at hn hu ⊢
   have ew : spec_l4Wires.f n (pruneN n f g i).2 ([] : List Int) = some (n + ((pruneN n f g i).2.length : Int)) := specWires_val n _ _ h0 h1 (by omega)
   unfold newG at hn
   obtain ⟨hk3, hu⟩ := hu
   rcases hk3 with c | c | ⟨c, c2, c3⟩
   ·rw [if_pos c, if_neg (by omega)] at hn
    rewrite [if_pos c, if_neg (by omega), ew]
    simp only [Option.bind_some]
    rewrite [if_pos (by omega), if_pos (by omega), if_pos (by omega)]
    exact hn
   ·have hf := hu q.f1 (by unfold cnUses; rw [if_neg (by omega), if_pos c]; exact List.mem_singleton.2 rfl)
    rw [if_neg (by omega), if_neg (by omega)] at hn
    rewrite [if_neg (by omega), if_pos (by omega), if_pos (by omega), if_neg (by omega), ew]
    simp only [Option.bind_some]
    rewrite [if_pos (by omega), if_pos (by omega), if_pos (by omega)]
    exact hn
   ·have hf := hu q.f1 (by unfold cnUses; rw [if_neg c, if_neg c2]; exact List.mem_cons_self)
    have hf2 := hu q.f2 (by unfold cnUses; rw [if_neg c, if_neg c2]; exact List.mem_cons_of_mem _ (List.mem_singleton.2 rfl))
    rw [if_neg c, if_pos c3] at hn
    rewrite [if_neg c, if_pos (by omega), if_pos (by omega), if_pos c3, if_pos (by omega), if_pos (by omega), ew]
    simp only [Option.bind_some]
    rewrite [if_pos (by omega), if_pos (by omega), if_pos (by omega)]
    exact hn
  ·rw [if_neg hb] at hn
   rewrite [if_neg hb]
   exact hn
theorem gates_impl {n : Int} {g : List Gt} {o : List Int} {f : List Bool} (h0 : 0 ≤ n) (h1 : n ≤ 16) (h2 : g.length ≤ 300) (h3 : o.length ≤ 16) (hok : okGates n g = true) (hfl : (f.length : Int) = n + (g.length : Int)) (ho : ∀ u ∈ o, 0 ≤ u ∧ u < (f.length : Int)) (d : Nat) : ∀ (i k : Nat), i + d = g.length → d + 1100 ≤ k →
  impl_PruneCircuit.l1 k f (pruneN n f g i).1 g (g.length : Int) (i : Int) n g o n (pruneN n f g i).2 = some (pruneE n f g o) := by
 induction d with
 | zero =>
  intro i k hi hk
  obtain ⟨k, rfl⟩ : ∃ m, k = m + 1 := ⟨k - 1, by omega⟩
  obtain rfl : i = g.length := by omega
  have hl := pruneN_len n f g g.length
  simp only [impl_PruneCircuit.l1]
  rw [if_neg (by omega)]
  have := outs_impl (pruneN n f g g.length).1 n (pruneN n f g g.length).2 o (by rw [hl.1]; exact ho) h3 o.length 0 k (by omega) (by omega)
  exact this
 | succ d ih =>
  intro i k hi hk
  obtain ⟨k, rfl⟩ : ∃ m, k = m + 1 := ⟨k - 1, by omega⟩
  have hit : i < g.length := by omega
  have e1 : wrap64 ((i : Int) + 1) = ((i + 1 : Nat) : Int) := by rw [wrap64_id _ (by omega) (by omega)]; omega
  have e2 : wrap64 (n + (i : Int)) = n + (i : Int) := wrap64_id _ (by omega) (by omega)
  have hl := pruneN_len n f g i
  have hn := ih (i + 1) k (by omega) (by omega)
  rw [pruneN] at hn
  have hu := okGate_uses (okGates_at g n i hit hok)
  simp only [impl_PruneCircuit.l1]
  rewrite [if_pos (by omega), if_pos (by omega), if_pos (by omega), e2, e1, if_pos (by omega), if_pos (by omega)]
  by_cases hb : rdOf false f (n + (i : Int)) = true
  ·rw [if_pos hb] at hn
   rewrite [if_pos hb]
   rw [rdGate_at hit] at hn ⊢
   obtain ⟨q, hq⟩ : ∃ q, g[i] = q := ⟨_, rfl⟩
   rw [hq] at hn hu ⊢
   have ew : impl_Circuit_wires.f n (pruneN n f g i).2 ([] : List Int) = some (n + ((pruneN n f g i).2.length : Int)) := implWires_val n _ _ h0 h1 (by omega)
   unfold newG at hn
   obtain ⟨hk3, hu⟩ := hu
   rcases hk3 with c | c | ⟨c, c2, c3⟩
   ·rw [if_pos c, if_neg (by omega)] at hn
    rewrite [if_pos c, if_neg (by omega), ew]
    simp only [Option.bind_some]
    rewrite [if_pos (by omega), if_pos (by omega)]
    exact hn
   ·have hf := hu q.f1 (by unfold cnUses; rw [if_neg (by omega), if_pos c]; exact List.mem_singleton.2 rfl)
    rw [if_neg (by omega), if_neg (by omega)] at hn
    rewrite [if_neg (by omega), if_pos (by omega), if_pos (by omega), if_neg (by omega), ew]
    simp only [Option.bind_some]
    rewrite [if_pos (by omega), if_pos (by omega)]
    exact hn
   ·have hf := hu q.f1 (by unfold cnUses; rw [if_neg c, if_neg c2]; exact List.mem_cons_self)
    have hf2 := hu q.f2 (by unfold cnUses; rw [if_neg c, if_neg c2]; exact List.mem_cons_of_mem _ (List.mem_singleton.2 rfl))
    rw [if_neg c, if_pos c3] at hn
    rewrite [if_neg c, if_pos (by omega), if_pos (by omega), if_pos c3, if_pos (by omega), if_pos (by omega), ew]
    simp only [Option.bind_some]
    rewrite [if_pos (by omega), if_pos (by omega)]
    exact hn
  ·rw [if_neg hb] at hn
   rewrite [if_neg hb]
   exact hn
theorem ins_impl {n : Int} {g : List Gt} {o : List Int} {f : List Bool} (h0 : 0 ≤ n) (h1 : n ≤ 16) (h2 : g.length ≤ 300) (h3 : o.length ≤ 16) (hok : okGates n g = true) (hfl : (f.length : Int) = n + (g.length : Int)) (ho : ∀ u ∈ o, 0 ≤ u ∧ u < (f.length : Int)) (d : Nat) : ∀ (i k : Nat), (i : Int) + (d : Int) = n → d + 1500 ≤ k → impl_PruneCircuit.l0 k f (numI f.length i) n (i : Int) n g o n = some (pruneE n f g o) := by
 induction d with
 | zero =>
  intro i k hi hk
  obtain ⟨k, rfl⟩ : ∃ m, k = m + 1 := ⟨k - 1, by omega⟩
  simp only [impl_PruneCircuit.l0]
  rw [if_neg (by omega)]
  have := gates_impl h0 h1 h2 h3 hok hfl ho g.length 0 k (by omega) (by omega)
  rw [pruneN, show n.toNat = i by omega] at this
  exact this
 | succ d ih =>
  intro i k hi hk
  obtain ⟨k, rfl⟩ : ∃ m, k = m + 1 := ⟨k - 1, by omega⟩
  have e1 : wrap64 ((i : Int) + 1) = ((i + 1 : Nat) : Int) := by rw [wrap64_id _ (by omega) (by omega)]; omega
  have hl := numI_len f.length i
  simp only [impl_PruneCircuit.l0]
  rewrite [if_pos (by omega), if_pos (by omega), if_pos (by omega), e1, Int.toNat_natCast]
  exact ih (i + 1) k (by omega) (by omega)
theorem ins_spec {n : Int} {g : List Gt} {o : List Int} {f : List Bool} (h0 : 0 ≤ n) (h1 : n ≤ 16) (h2 : g.length ≤ 300) (h3 : o.length ≤ 16) (hok : okGates n g = true) (hfl : (f.length : Int) = n + (g.length : Int)) (ho : ∀ u ∈ o, 0 ≤ u ∧ u < (f.length : Int)) (hc : ∀ k, 2000 ≤ k → spec_l4Cone.f k n g o o = some (marked f f.length)) (d : Nat) : ∀ (i k : Nat), (i : Int) + (d : Int) = n → d + 3000 ≤ k → spec_PruneCircuit.l0 k (numI f.length i) (i : Int) n g o n = some (pruneE n f g o) := by
 induction d with
 | zero =>
  intro i k hi hk
  obtain ⟨k, rfl⟩ : ∃ m, k = m + 1 := ⟨k - 1, by omega⟩
  simp only [spec_PruneCircuit.l0]
  rw [if_neg (by omega), hc k (by omega)]
  simp only [Option.bind_some]
  have := gates_spec h0 h1 h2 h3 hok hfl ho g.length 0 k (by omega) (by omega)
  rw [pruneN, show n.toNat = i by omega] at this
  exact this
 | succ d ih =>
  intro i k hi hk
  obtain ⟨k, rfl⟩ : ∃ m, k = m + 1 := ⟨k - 1, by omega⟩
  have e1 : wrap64 ((i : Int) + 1) = ((i + 1 : Nat) : Int) := by rw [wrap64_id _ (by omega) (by omega)]; omega
  have hl := numI_len f.length i
  simp only [spec_PruneCircuit.l0]
  rewrite [if_pos (by omega), if_pos (by omega), if_pos (by omega), e1, Int.toNat_natCast]
  exact ih (i + 1) k (by omega) (by omega)
def pruneR (n : Int) (g : List Gt) (o : List Int) : Int × List Gt × List Int × Bool := if okCirc n g o = true then pruneE n (coneF n g o) g o else (0, [], [], false)
theorem pruneR_len (n : Int) (g : List Gt) (o : List Int) : (pruneR n g o).2.1.length + (pruneR n g o).2.2.1.length ≤ 1000 := by
 unfold pruneR
 split
 ·rename_i h
  obtain ⟨h0, h1, h2, h3⟩ := okCirc_size h
  have := (pruneN_len n (coneF n g o) g g.length).2
  unfold pruneE
  dsimp only
  rw [List.length_map]
  omega
 ·simp
theorem prune_spec (n : Int) (g : List Gt) (o : List Int) (k : Nat) (hk : 4000 ≤ k) : spec_PruneCircuit.f k n g o = some (pruneR n g o) := by
 unfold spec_PruneCircuit.f pruneR
 rewrite [specCirc_val n g o k (by omega)]
 simp only [Option.bind_some]
 by_cases h : okCirc n g o = true
 ·obtain ⟨h0, h1, h2, h3, hok, hoo⟩ := okCirc_parts h
  have hw : ∀ u ∈ o, 0 ≤ u ∧ u < n + (g.length : Int) := fun u hu => below_is (List.all_eq_true.1 hoo u hu)
  have hfl := coneF_len n g o
  have hfi : ((coneF n g o).length : Int) = n + (g.length : Int) := by omega
  rewrite [if_pos h, if_pos h, specWires_val n g o h0 h1 h2]
  simp only [Option.bind_some]
  rewrite [if_pos (by omega), if_pos (by omega), ← hfl]
  exact ins_spec h0 h1 h2 h3 hok hfi (by rw [hfi]; exact hw) (fun k hk => by rw [hfl]; exact cone_spec h0 h1 h2 hok o hw (by omega) k hk) n.toNat 0 k (by omega) (by omega)
 ·rewrite [if_neg h, if_neg h]; rfl
theorem prune_impl (n : Int) (g : List Gt) (o : List Int) (k : Nat) (hk : 4000 ≤ k) : impl_PruneCircuit.f k n g o = some (pruneR n g o) := by
 unfold impl_PruneCircuit.f pruneR
 rewrite [implCirc_val n g o k (by omega)]
 simp only [Option.bind_some]
 by_cases h : okCirc n g o = true
 ·obtain ⟨h0, h1, h2, h3, hok, hoo⟩ := okCirc_parts h
  have hw : ∀ u ∈ o, 0 ≤ u ∧ u < n + (g.length : Int) := fun u hu => below_is (List.all_eq_true.1 hoo u hu)
  have hfl := coneF_len n g o
  have hfi : ((coneF n g o).length : Int) = n + (g.length : Int) := by omega
  rewrite [if_pos h, if_pos h, cone_impl h0 h1 h2 hok o hw]
  simp only [Option.bind_some]
  rewrite [implWires_val n g o h0 h1 h2]
  simp only [Option.bind_some]
  rewrite [if_pos (by omega), if_pos (by omega), ← hfl]
  exact ins_impl h0 h1 h2 h3 hok hfi (by rw [hfi]; exact hw) n.toNat 0 k (by omega) (by omega)
 ·rewrite [if_neg h, if_neg h]; rfl
theorem FnExactPruneCircuit : laws_FnExactPruneCircuit.Pure := by
 intro n g o _ hg ho
 have hgl := hg.1
 have hol := ho.1
 simp only [maxLen] at hgl hol
 refine ⟨g.length + o.length + 5003, ?_⟩
 obtain ⟨q, hq⟩ : ∃ q, g.length + o.length + 5000 = q := ⟨_, rfl⟩
 rw [show g.length + o.length + 5003 = q + 3 by omega]
 unfold laws_FnExactPruneCircuit.f
 rewrite [szCircuit_val n g o hgl hol]
 simp only [Option.bind_some]
 by_cases hs : g.length + o.length ≤ 1048576
 ·have hgc : (g.map convGate).length = g.length := List.length_map ..
  rewrite [if_pos hs, if_neg (by omega), toCircuit_val _ n g o hs (by omega)]
  simp only [Option.bind_some]
  have hS := fun k hk => prune_spec n (g.map convGate) o k hk
  have hI := fun k hk => prune_impl n (g.map convGate) o k hk
  have hr := pruneR_len n (g.map convGate) o
  obtain ⟨n2, g2, o2, b2, hres⟩ : ∃ n2 g2 o2 b2, pruneR n (g.map convGate) o = (n2, g2, o2, b2) := ⟨_, _, _, _, rfl⟩
  simp only [hres] at hS hI hr
  have hbb : (b2 != b2) = false := by simp
  rewrite [hS _ (by omega)]
  simp only [Option.bind_some]
  rewrite [hI _ (by omega)]
  simp only [Option.bind_some]
  rewrite [eqCircuit_val _ n2 g2 o2 (by omega) (by omega)]
  simp only [Option.bind_some, if_true, laws_FnExactPruneCircuit.j0, hbb, Bool.false_eq_true, if_false]
  rewrite [toCircuit_val _ n g o hs (by omega)]
  simp only [Option.bind_some]
  rewrite [eqCircuit_val _ n _ o (by omega) (by omega)]
  simp only [Option.bind_some, if_true]
  rewrite [markCircuit_val _ 1 n (by omega) (by omega) (g.map convGate) o (by omega) (by omega)]
  simp only [Option.bind_some]
  rewrite [if_neg (by omega), eqCircuit_val _ n2 g2 o2 (by omega) (by omega)]
  simp only [Option.bind_some, if_true, laws_FnExactPruneCircuit.j1, Bool.false_eq_true, if_false]
  rewrite [markCircuit_val _ 1 n2 (by omega) (by omega) g2 o2 (by omega) (by omega)]
  simp only [Option.bind_some]
  rewrite [heldCircuit_val _ 1 n2 (by omega) (by omega) g2.length o2.length (by omega) (by omega)]
  simp only [Option.bind_some]
  rewrite [if_neg (by omega)]
  simp only [if_true]
  rewrite [toCircuit_val _ n g o hs (by omega)]
  simp only [Option.bind_some]
  rewrite [hI _ (by omega)]
  simp only [Option.bind_some]
  rewrite [eqCircuit_val _ n2 g2 o2 (by omega) (by omega)]
  simp only [Option.bind_some, if_true, laws_FnExactPruneCircuit.j2, hbb, Bool.false_eq_true, if_false]
  rewrite [heldCircuit_val _ 1 n2 (by omega) (by omega) g2.length o2.length (by omega) (by omega)]
  simp only [Option.bind_some]
  rewrite [if_neg (by omega)]
  rfl
 ·rewrite [if_neg hs, if_pos (by decide)]; rfl
end Go.Proofs.Ytimkjhdopncimaa.Pure
