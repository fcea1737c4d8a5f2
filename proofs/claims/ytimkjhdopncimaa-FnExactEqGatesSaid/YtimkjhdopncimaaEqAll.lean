/- Bits of 64-bit words as the model tells them: and, or, xor, shifts and masks as remainders and powers of two. No condition. The laws' own list functions (copying, comparing, measuring, writing over, looking again) come to plain lists. Conditions: lists no longer than 2^20. Written by wip/xp/lists.py. The law over circuits' validity: both sides come to one plain test. Conditions: a circuit of this machine's word. The laws' own list functions (copying, comparing, measuring, writing over, looking again) come to plain lists. Conditions: lists no longer than 2^20. Written by wip/xp/lists.py. The laws' own list functions (copying, comparing, measuring, writing over, looking again) come to plain lists. Conditions: lists no longer than 2^20. Written by wip/xp/lists.py. What the laws on AddGates, LessGates and EqGates share: the operands' test, the circuit's copy, marks and what is held. Conditions: lists no longer than 2^20. The law on EqGates: both sides lay the same gates behind the same circuit. Conditions: those of the law's own Pure. -/
import Derived.Test.YtimkjhdopncimaaWMore
import Derived.Laws.BitsLemmas
import Derived.Test.YtimkjhdopncimaaXO
import Derived.Test.YtimkjhdopncimaaX1
import Derived.Test.YtimkjhdopncimaaX8
import Derived.Test.YtimkjhdopncimaaX11
import Derived.Test.YtimkjhdopncimaaX13
import Derived.Test.YtimkjhdopncimaaX25
import Derived.Test.YtimkjhdopncimaaX28
import Derived.Test.YtimkjhdopncimaaX33
import Derived.Test.YtimkjhdopncimaaX4
import Derived.Test.YtimkjhdopncimaaX47
import Derived.Test.YtimkjhdopncimaaX5
import Derived.Test.YtimkjhdopncimaaX51
namespace Go.Proofs.Ytimkjhdopncimaa.Bits
open Go.RowKit Go.Proofs.YtimkjhdopncimaaW.PrintWords

theorem wrap64_id (n : Int) (h0 : -9223372036854775808 ≤ n) (h1 : n ≤ 9223372036854775807) : wrap64 n = n := by unfold wrap64; omega

/-- The words of a width. -/
def word (w a : Int) : Prop := 1 ≤ w ∧ w ≤ 64 ∧ 0 ≤ a ∧ a < 2 ^ w.toNat
instance (w a : Int) : Decidable (word w a) := by unfold word; infer_instance
end Go.Proofs.Ytimkjhdopncimaa.Bits

namespace Go.Proofs.Ytimkjhdopncimaa.Pure
open Go.RowKit Go.Proofs.Ytimkjhdopncimaa.X Go.Proofs.YtimkjhdopncimaaW.PrintWords Go.Proofs.YtimkjhdopncimaaW.PrintLast Go.Proofs.YtimkjhdopncimaaW.PrintMore Go.Proofs.Ytimkjhdopncimaa.Bits
theorem set_mid {α : Type} (a b : List α) (x y : α) (n : Nat) (h : n = a.length) : (a ++ x :: b).set n y = a ++ y :: b := by
 subst h; simp
def convGate (x : S82) : S59 := ⟨x.f0, x.f1, x.f2⟩
theorem rdGate_at {t : List S59} {i : Nat} (h : i < t.length) : rd_T59 t (i : Int) = t[i] := by
 unfold rd_T59
 rw [Int.toNat_natCast, List.getD_eq_getElem?_getD, List.getElem?_eq_getElem h]; rfl
theorem rdlGate_at {t : List S82} {i : Nat} (h : i < t.length) : rd_T82 t (i : Int) = t[i] := by
 unfold rd_T82
 rw [Int.toNat_natCast, List.getD_eq_getElem?_getD, List.getElem?_eq_getElem h]; rfl
theorem szGate_val (l : List S82) (left : Int) (h0 : 0 ≤ left) (h1 : left ≤ 1048576) (hl : l.length ≤ 9223372036854775807) : laws_szGateS.f l left = some (if left < (l.length : Int) then -1 else left - (l.length : Int)) := by
 unfold laws_szGateS.f
 rw [wrap64_id _ (by omega) (by omega)]
 by_cases h : left < (l.length : Int)
 ·rw [if_pos (by omega), if_pos h]
 ·rw [if_neg (by omega), if_neg h]
theorem toGate_loop (l : List S82) (hl : l.length ≤ 1048576) (d : Nat) : ∀ (i : Nat) (k : Nat), i + d = l.length → d < k →
  laws_toGateS.l0 k l (((l.take i).map convGate) ++ List.replicate d z59) (i : Int) = some (l.map convGate) := by
 induction d with
 | zero =>
  intro i k hi hk
  obtain ⟨k, rfl⟩ : ∃ m, k = m + 1 := ⟨k - 1, by omega⟩
  simp only [laws_toGateS.l0]
  rw [if_neg (by omega), List.take_of_length_le (by omega)]
  simp
 | succ d ih =>
  intro i k hi hk
  obtain ⟨k, rfl⟩ : ∃ m, k = m + 1 := ⟨k - 1, by omega⟩
  have hit : i < l.length := by omega
  have e1 : wrap64 ((i : Int) + 1) = ((i + 1 : Nat) : Int) := by rw [wrap64_id _ (by omega) (by omega)]; omega
  simp only [laws_toGateS.l0]
  rewrite [if_pos (by omega), if_pos (by omega)]
  unfold laws_toGate.f
  simp only [Option.bind_some]
  rewrite [if_pos (by simp; omega), rdlGate_at hit, e1, Int.toNat_natCast, List.replicate_succ, set_mid _ _ _ _ _ (by simp; omega)]
  have h2 : ((l.take i).map convGate) ++ (⟨l[i].f0, l[i].f1, l[i].f2⟩ : S59) :: List.replicate d z59 = ((l.take (i + 1)).map convGate) ++ List.replicate d z59 := by
   rw [List.take_add_one, List.getElem?_eq_getElem hit, Option.toList_some, List.map_append, List.append_assoc]
   rfl
  rewrite [h2]
  exact ih (i + 1) k (by omega) (by omega)
theorem toGate_val (k : Nat) (l : List S82) (hl : l.length ≤ 1048576) (hk : l.length < k) : laws_toGateS.f k l = some (l.map convGate) := by
 unfold laws_toGateS.f
 rw [if_pos (by omega), Int.toNat_natCast, if_pos (by omega)]
 have := toGate_loop l hl l.length 0 k (by omega) hk
 simpa using this
theorem eqGate_loop (l : List S59) (hl : l.length ≤ 1048576) (d : Nat) : ∀ (i : Nat) (k : Nat), i + d = l.length → d < k → laws_eqGateS.l0 k l l (i : Int) = some true := by
 induction d with
 | zero =>
  intro i k hi hk
  obtain ⟨k, rfl⟩ : ∃ m, k = m + 1 := ⟨k - 1, by omega⟩
  simp only [laws_eqGateS.l0]
  rw [if_neg (by omega)]
 | succ d ih =>
  intro i k hi hk
  obtain ⟨k, rfl⟩ : ∃ m, k = m + 1 := ⟨k - 1, by omega⟩
  have e1 : wrap64 ((i : Int) + 1) = ((i + 1 : Nat) : Int) := by rw [wrap64_id _ (by omega) (by omega)]; omega
  simp only [laws_eqGateS.l0]
  rewrite [if_pos (by omega), if_pos (by omega), if_pos (by omega)]
  unfold laws_eqGate.f
  rewrite [if_pos rfl, if_pos rfl, if_pos rfl]
  simp only [Option.bind_some, if_true]
  rewrite [e1]
  exact ih (i + 1) k (by omega) (by omega)
theorem eqGate_val (k : Nat) (l : List S59) (hl : l.length ≤ 1048576) (hk : l.length < k) : laws_eqGateS.f k l l = some true := by
 unfold laws_eqGateS.f
 rw [if_pos rfl]
 exact eqGate_loop l hl l.length 0 k (by omega) hk

theorem rdInt_at {t : List Int} {i : Nat} (h : i < t.length) : rd t (i : Int) = t[i] := by
 unfold rd
 rw [Int.toNat_natCast, List.getD_eq_getElem?_getD, List.getElem?_eq_getElem h]; rfl
theorem szInt_val (l : List Int) (left : Int) (h0 : 0 ≤ left) (h1 : left ≤ 1048576) (hl : l.length ≤ 9223372036854775807) : laws_szIntS.f l left = some (if left < (l.length : Int) then -1 else left - (l.length : Int)) := by
 unfold laws_szIntS.f
 rw [wrap64_id _ (by omega) (by omega)]
 by_cases h : left < (l.length : Int)
 ·rw [if_pos (by omega), if_pos h]
 ·rw [if_neg (by omega), if_neg h]
theorem toInt_loop (l : List Int) (hl : l.length ≤ 1048576) (d : Nat) : ∀ (i : Nat) (k : Nat), i + d = l.length → d < k →
  laws_toIntS.l0 k l ((l.take i) ++ List.replicate d 0) (i : Int) = some (l) := by
 induction d with
 | zero =>
  intro i k hi hk
  obtain ⟨k, rfl⟩ : ∃ m, k = m + 1 := ⟨k - 1, by omega⟩
  simp only [laws_toIntS.l0]
  rw [if_neg (by omega), List.take_of_length_le (by omega)]
  simp
 | succ d ih =>
  intro i k hi hk
  obtain ⟨k, rfl⟩ : ∃ m, k = m + 1 := ⟨k - 1, by omega⟩
  have hit : i < l.length := by omega
  have e1 : wrap64 ((i : Int) + 1) = ((i + 1 : Nat) : Int) := by rw [wrap64_id _ (by omega) (by omega)]; omega
  simp only [laws_toIntS.l0]
  rewrite [if_pos (by omega), if_pos (by omega)]
  rewrite [if_pos (by simp; omega), rdInt_at hit, e1, Int.toNat_natCast, List.replicate_succ, set_mid _ _ _ _ _ (by simp; omega)]
  have h2 : (l.take i) ++ l[i] :: List.replicate d 0 = (l.take (i + 1)) ++ List.replicate d 0 := by
   rw [List.take_add_one, List.getElem?_eq_getElem hit, Option.toList_some, List.append_assoc]
   rfl
  rewrite [h2]
  exact ih (i + 1) k (by omega) (by omega)
theorem toInt_val (k : Nat) (l : List Int) (hl : l.length ≤ 1048576) (hk : l.length < k) : laws_toIntS.f k l = some (l) := by
 unfold laws_toIntS.f
 rw [if_pos (by omega), Int.toNat_natCast, if_pos (by omega)]
 have := toInt_loop l hl l.length 0 k (by omega) hk
 simpa using this
theorem eqInt_loop (l : List Int) (hl : l.length ≤ 1048576) (d : Nat) : ∀ (i : Nat) (k : Nat), i + d = l.length → d < k → laws_eqIntS.l0 k l l (i : Int) = some true := by
 induction d with
 | zero =>
  intro i k hi hk
  obtain ⟨k, rfl⟩ : ∃ m, k = m + 1 := ⟨k - 1, by omega⟩
  simp only [laws_eqIntS.l0]
  rw [if_neg (by omega)]
 | succ d ih =>
  intro i k hi hk
  obtain ⟨k, rfl⟩ : ∃ m, k = m + 1 := ⟨k - 1, by omega⟩
  have e1 : wrap64 ((i : Int) + 1) = ((i + 1 : Nat) : Int) := by rw [wrap64_id _ (by omega) (by omega)]; omega
  simp only [laws_eqIntS.l0]
  rewrite [if_pos (by omega), if_pos (by omega), if_pos (by omega)]
  rewrite [if_pos trivial]
  rewrite [e1]
  exact ih (i + 1) k (by omega) (by omega)
theorem eqInt_val (k : Nat) (l : List Int) (hl : l.length ≤ 1048576) (hk : l.length < k) : laws_eqIntS.f k l l = some true := by
 unfold laws_eqIntS.f
 rw [if_pos rfl]
 exact eqInt_loop l hl l.length 0 k (by omega) hk

end Go.Proofs.Ytimkjhdopncimaa.Pure

namespace Go.Proofs.Ytimkjhdopncimaa.Pure
open Go.RowKit Go.Proofs.Ytimkjhdopncimaa.X Go.Proofs.YtimkjhdopncimaaW.PrintWords Go.Proofs.YtimkjhdopncimaaW.PrintLast Go.Proofs.YtimkjhdopncimaaW.PrintMore Go.Proofs.Ytimkjhdopncimaa.Bits
abbrev Gt := S59
/-- A wire's number below a bound. -/
def below (w x : Int) : Bool := decide (0 ≤ x) && decide (x < w)
/-- A gate that may have the wire w. -/
def okGate (w : Int) (g : Gt) : Bool :=
 if g.f0 = 1 then below 2 g.f1 && decide (g.f2 = 0)
 else if g.f0 = 2 then below w g.f1 && decide (g.f2 = 0)
 else if 3 ≤ g.f0 ∧ g.f0 ≤ 5 then below w g.f1 && below w g.f2 else false
def okGates : Int → List Gt → Bool
 | _, [] => true
 | w, g :: r => okGate w g && okGates (w + 1) r
def okCirc (n : Int) (g : List Gt) (o : List Int) : Bool :=
 decide (0 ≤ n ∧ n ≤ 16 ∧ g.length ≤ 300 ∧ o.length ≤ 16) && (okGates n g && o.all (below (n + (g.length : Int))))
theorem offWire_eq (w x : Int) : offWire w x = !below w x := by
 unfold offWire below
 by_cases h : x < 0
 ·rw [decide_eq_true h, decide_eq_false (show ¬ (0 ≤ x) by omega)]; rfl
 ·rw [decide_eq_false h, decide_eq_true (show 0 ≤ x by omega)]
  by_cases h2 : x < w
  ·rw [decide_eq_true h2, decide_eq_false (show ¬ (w ≤ x) by omega)]; rfl
  ·rw [decide_eq_false h2, decide_eq_true (show w ≤ x by omega)]; rfl
theorem l1In_below (x w : Int) : spec_l1In.f x 0 (w - 1) = some (below w x) := by
 unfold spec_l1In.f below
 by_cases h : x ≥ 0
 ·rw [if_pos h, decide_eq_true (show 0 ≤ x from h), Bool.true_and]
  congr 1
  exact decide_eq_decide.mpr (by omega)
 ·rw [if_neg h, decide_eq_false (show ¬ (0 ≤ x) from h)]; rfl
theorem wiresBelow_val (l : List Int) (w : Int) : impl_areWiresBelow.f l w = some (l.all (below w)) := by
 unfold impl_areWiresBelow.f impl_areWiresBelow_any.f
 simp only [Option.bind_some]
 congr 1
 induction l with
 | nil => rfl
 | cons x t ih =>
  rw [List.any_cons, List.all_cons, Bool.not_or, ih, offWire_eq, Bool.not_not]
theorem l1All_loop (w : Int) (l : List Int) (hl : l.length ≤ 1048576) (d : Nat) : ∀ (i k : Nat), i + d = l.length → d < k →
  spec_l1All.l0 k 0 (w - 1) l (l.length : Int) (i : Int) = some ((l.drop i).all (below w)) := by
 induction d with
 | zero =>
  intro i k hi hk
  obtain ⟨k, rfl⟩ : ∃ m, k = m + 1 := ⟨k - 1, by omega⟩
  simp only [spec_l1All.l0]
  rw [if_neg (by omega), List.drop_eq_nil_of_le (by omega)]; rfl
 | succ d ih =>
  intro i k hi hk
  obtain ⟨k, rfl⟩ : ∃ m, k = m + 1 := ⟨k - 1, by omega⟩
  have hit : i < l.length := by omega
  have e1 : wrap64 ((i : Int) + 1) = ((i + 1 : Nat) : Int) := by rw [wrap64_id _ (by omega) (by omega)]; omega
  have hd : l.drop i = l[i] :: l.drop (i + 1) := List.drop_eq_getElem_cons hit
  simp only [spec_l1All.l0]
  rewrite [if_pos (by omega), if_pos (by omega), if_pos (by omega), rdInt_at hit, l1In_below, hd, List.all_cons]
  simp only [Option.bind_some]
  cases hb : below w l[i] with
  | false => rewrite [if_neg (by decide)]; rfl
  | true => rewrite [if_pos rfl, e1, ih (i + 1) k (by omega) (by omega)]; rfl
theorem l1All_val (w : Int) (l : List Int) (hl : l.length ≤ 1048576) (k : Nat) (hk : l.length < k) : spec_l1All.f k l 0 (w - 1) = some (l.all (below w)) :=
 l1All_loop w l hl l.length 0 k (by omega) hk
theorem eq0_dec (x : Int) : (x == 0) = decide (x = 0) := rfl
theorem spec_gate (g : Gt) (w : Int) (hw : -1000000 ≤ w) (hw2 : w ≤ 1000000) (k : Nat) (hk : 1 ≤ k) : spec_l4Gate.f k g.f0 g.f1 g.f2 w = some (okGate w g) := by
 obtain ⟨k, rfl⟩ : ∃ m, k = m + 1 := ⟨k - 1, by omega⟩
 have ew : wrap64 (w - 1) = w - 1 := wrap64_id _ (by omega) (by omega)
 have hj : ∀ b, spec_l4Gate.j0 (k + 1) w b g.f0 g.f1 g.f2 = some (b && (below w g.f1 && below w g.f2)) := by
  intro b
  simp only [spec_l4Gate.j0]
  rewrite [ew, l1In_below, l1In_below]
  cases b with
  | false => rfl
  | true =>
   rewrite [if_pos rfl]
   simp only [Option.bind_some]
   cases below w g.f1 <;> rfl
 have e2 : spec_l1In.f g.f1 0 1 = some (below 2 g.f1) := l1In_below g.f1 2
 unfold spec_l4Gate.f okGate
 rewrite [ew, l1In_below, e2]
 simp only [Option.bind_some, hj, eq0_dec]
 by_cases h1 : g.f0 = 1
 ·rewrite [if_pos h1, if_pos h1]
  cases below 2 g.f1 <;> rfl
 ·rewrite [if_neg h1, if_neg h1]
  by_cases h2 : g.f0 = 2
  ·rewrite [if_pos h2, if_pos h2]
   cases below w g.f1 <;> rfl
  ·rewrite [if_neg h2, if_neg h2]
   by_cases h3 : g.f0 = 3
   ·rewrite [if_pos h3, if_pos (by omega), beq_iff_eq.mpr h3]; rfl
   ·rewrite [if_neg h3]
    by_cases h4 : g.f0 = 4
    ·rewrite [if_pos h4, if_pos (by omega), beq_iff_eq.mpr h4]; rfl
    ·rewrite [if_neg h4]
     by_cases h5 : g.f0 = 5
     ·rewrite [if_pos (by omega), beq_iff_eq.mpr h5]; rfl
     ·rewrite [if_neg (by omega), beq_eq_false_iff_ne.mpr h5]; rfl
theorem impl_gate (g : Gt) (w : Int) (k : Nat) (hk : 3 ≤ k) : impl_isGate.f k g.f0 g.f1 g.f2 w = some (okGate w g) := by
 obtain ⟨k, rfl⟩ : ∃ m, k = m + 3 := ⟨k - 3, by omega⟩
 unfold impl_isGate.f okGate
 by_cases ha : g.f0 < 1
 ·rewrite [if_pos ha, if_neg (by omega), if_neg (by omega), if_neg (by omega)]
  simp only [impl_isGate.j0]
  rfl
 ·rewrite [if_neg ha]
  by_cases hb : g.f0 > 5
  ·rewrite [decide_eq_true hb, if_neg (by omega), if_neg (by omega), if_neg (by omega)]
   simp only [impl_isGate.j0]
   rfl
  ·rewrite [decide_eq_false hb]
   simp only [impl_isGate.j0]
   rewrite [if_neg (by decide)]
   by_cases h1 : g.f0 = 1
   ·rewrite [if_pos h1, if_pos h1]
    unfold below
    by_cases h2 : g.f1 < 0
    ·rewrite [if_pos h2, decide_eq_false (show ¬ (0 ≤ g.f1) by omega)]
     simp only [impl_isGate.j1]
     rfl
    ·rewrite [if_neg h2, decide_eq_true (show 0 ≤ g.f1 by omega)]
     by_cases h3 : g.f1 > 1
     ·rewrite [decide_eq_true h3, decide_eq_false (show ¬ (g.f1 < 2) by omega)]
      simp only [impl_isGate.j1]
      rfl
     ·rewrite [decide_eq_false h3, decide_eq_true (show g.f1 < 2 by omega)]
      simp only [impl_isGate.j1]
      rewrite [if_neg (by decide), if_pos (by omega)]
      by_cases h4 : g.f2 = 0
      ·rewrite [decide_eq_true h4, bne_eq_false_iff_eq.mpr h4]
       simp only [impl_isGate.j2]
       rewrite [if_neg (by decide)]
       unfold impl_Gate_uses.f
       rewrite [if_pos h1]
       simp only [Option.bind_some]
       rewrite [wiresBelow_val]
       rfl
      ·rewrite [decide_eq_false h4, bne_iff_ne.mpr h4]
       simp only [impl_isGate.j2]
       rfl
   ·rewrite [if_neg h1, if_neg h1]
    simp only [impl_isGate.j1]
    rewrite [if_neg (by decide)]
    by_cases h2 : g.f0 = 2
    ·rewrite [if_pos (by omega), if_pos h2]
     by_cases h4 : g.f2 = 0
     ·rewrite [decide_eq_true h4, bne_eq_false_iff_eq.mpr h4]
      simp only [impl_isGate.j2]
      rewrite [if_neg (by decide)]
      unfold impl_Gate_uses.f
      rewrite [if_neg h1, if_pos h2]
      simp only [Option.bind_some]
      rewrite [wiresBelow_val]
      rfl
     ·rewrite [decide_eq_false h4, bne_iff_ne.mpr h4, Bool.and_false]
      simp only [impl_isGate.j2]
      rfl
    ·rewrite [if_neg (by omega), if_neg h2, if_pos (by omega)]
     simp only [impl_isGate.j2]
     rewrite [if_neg (by decide)]
     unfold impl_Gate_uses.f
     rewrite [if_neg h1, if_neg h2]
     simp only [Option.bind_some]
     rewrite [wiresBelow_val]
     simp only [List.all_cons, List.all_nil, Bool.and_true]
     rfl
theorem specCirc_loop (n : Int) (h0 : 0 ≤ n) (h1 : n ≤ 16) (g : List Gt) (hg : g.length ≤ 300) (o : List Int) (ho : o.length ≤ 16) (d : Nat) : ∀ (i k : Nat), i + d = g.length → d + 20 < k →
  spec_GoodCircuit.l0 k g (g.length : Int) (i : Int) n g o = some (okGates (n + (i : Int)) (g.drop i) && o.all (below (n + (g.length : Int)))) := by
 induction d with
 | zero =>
  intro i k hi hk
  obtain ⟨k, rfl⟩ : ∃ m, k = m + 1 := ⟨k - 1, by omega⟩
  have ew : wrap64 (n + (g.length : Int)) = n + (g.length : Int) := wrap64_id _ (by omega) (by omega)
  have ew2 : wrap64 (n + (g.length : Int) - 1) = n + (g.length : Int) - 1 := wrap64_id _ (by omega) (by omega)
  simp only [spec_GoodCircuit.l0]
  rewrite [if_neg (by omega), List.drop_eq_nil_of_le (by omega)]
  unfold spec_l4Wires.f
  simp only [Option.bind_some]
  rewrite [ew, ew2, l1All_val _ _ (by omega) _ (by omega)]
  rfl
 | succ d ih =>
  intro i k hi hk
  obtain ⟨k, rfl⟩ : ∃ m, k = m + 1 := ⟨k - 1, by omega⟩
  have hit : i < g.length := by omega
  have e1 : wrap64 ((i : Int) + 1) = ((i + 1 : Nat) : Int) := by rw [wrap64_id _ (by omega) (by omega)]; omega
  have e2 : wrap64 (n + (i : Int)) = n + (i : Int) := wrap64_id _ (by omega) (by omega)
  have e3 : n + (i : Int) + 1 = n + ((i + 1 : Nat) : Int) := by omega
  have hd : g.drop i = g[i] :: g.drop (i + 1) := List.drop_eq_getElem_cons hit
  simp only [spec_GoodCircuit.l0]
  rewrite [if_pos (by omega), if_pos (by omega), if_pos (by omega), rdGate_at hit, e2, spec_gate _ _ (by omega) (by omega) _ (by omega), hd, okGates]
  simp only [Option.bind_some]
  cases hb : okGate (n + (i : Int)) g[i] with
  | false => rewrite [if_neg (by decide)]; rfl
  | true => rewrite [if_pos rfl, e1, ih (i + 1) k (by omega) (by omega), e3]; rfl
theorem implCirc_loop (n : Int) (h0 : 0 ≤ n) (h1 : n ≤ 16) (g : List Gt) (hg : g.length ≤ 300) (o : List Int) (d : Nat) : ∀ (i k : Nat), i + d = g.length → d + 20 < k →
  impl_GoodCircuit.l0 k g (g.length : Int) (i : Int) n g o = some (okGates (n + (i : Int)) (g.drop i) && o.all (below (n + (g.length : Int)))) := by
 induction d with
 | zero =>
  intro i k hi hk
  obtain ⟨k, rfl⟩ : ∃ m, k = m + 1 := ⟨k - 1, by omega⟩
  have ew : wrap64 (n + (g.length : Int)) = n + (g.length : Int) := wrap64_id _ (by omega) (by omega)
  simp only [impl_GoodCircuit.l0]
  rewrite [if_neg (by omega), List.drop_eq_nil_of_le (by omega)]
  unfold impl_Circuit_wires.f
  simp only [Option.bind_some]
  rewrite [ew, wiresBelow_val]
  rfl
 | succ d ih =>
  intro i k hi hk
  obtain ⟨k, rfl⟩ : ∃ m, k = m + 1 := ⟨k - 1, by omega⟩
  have hit : i < g.length := by omega
  have e1 : wrap64 ((i : Int) + 1) = ((i + 1 : Nat) : Int) := by rw [wrap64_id _ (by omega) (by omega)]; omega
  have e2 : wrap64 (n + (i : Int)) = n + (i : Int) := wrap64_id _ (by omega) (by omega)
  have e3 : n + (i : Int) + 1 = n + ((i + 1 : Nat) : Int) := by omega
  have hd : g.drop i = g[i] :: g.drop (i + 1) := List.drop_eq_getElem_cons hit
  simp only [impl_GoodCircuit.l0]
  rewrite [if_pos (by omega), if_pos (by omega), if_pos (by omega), rdGate_at hit, e2, impl_gate _ _ _ (by omega), hd, okGates]
  simp only [Option.bind_some]
  cases hb : okGate (n + (i : Int)) g[i] with
  | false => rewrite [if_neg (by decide)]; rfl
  | true => rewrite [if_pos rfl, e1, ih (i + 1) k (by omega) (by omega), e3]; rfl
theorem okCirc_no (n : Int) (g : List Gt) (o : List Int) (h : ¬ (0 ≤ n ∧ n ≤ 16 ∧ g.length ≤ 300 ∧ o.length ≤ 16)) : okCirc n g o = false := by
 unfold okCirc
 rw [decide_eq_false h]; rfl
theorem specCirc_val (n : Int) (g : List Gt) (o : List Int) (k : Nat) (hk : 400 ≤ k) : spec_GoodCircuit.f k n g o = some (okCirc n g o) := by
 obtain ⟨k, rfl⟩ : ∃ m, k = m + 1 := ⟨k - 1, by omega⟩
 unfold spec_GoodCircuit.f spec_l1In.f
 have hj : ∀ m, spec_GoodCircuit.j0 (m + 1) true n g o = some false := by
  intro m
  simp only [spec_GoodCircuit.j0]
  rfl
 by_cases h0 : n ≥ 0
 ·rewrite [if_pos h0]
  simp only [Option.bind_some]
  by_cases h1 : n ≤ 16
  ·rewrite [decide_eq_true h1, if_pos rfl]
   by_cases h2 : (g.length : Int) > 300
   ·rewrite [if_pos h2, hj, okCirc_no n g o (by omega)]; rfl
   ·rewrite [if_neg h2]
    by_cases h3 : (o.length : Int) > 16
    ·rewrite [decide_eq_true h3, hj, okCirc_no n g o (by omega)]; rfl
    ·rewrite [decide_eq_false h3]
     simp only [spec_GoodCircuit.j0]
     have := specCirc_loop n h0 h1 g (by omega) o (by omega) g.length 0 k (by omega) (by omega)
     rewrite [Int.natCast_zero, Int.add_zero, List.drop_zero] at this
     rewrite [if_neg (by decide), this]
     unfold okCirc
     rewrite [decide_eq_true (show 0 ≤ n ∧ n ≤ 16 ∧ g.length ≤ 300 ∧ o.length ≤ 16 from ⟨h0, h1, by omega, by omega⟩)]
     rfl
  ·rewrite [decide_eq_false h1, if_neg (by decide), hj, okCirc_no n g o (by omega)]; rfl
 ·rewrite [if_neg h0]
  simp only [Option.bind_some]
  rewrite [if_neg (by decide), hj, okCirc_no n g o (by omega)]; rfl
theorem implCirc_val (n : Int) (g : List Gt) (o : List Int) (k : Nat) (hk : 400 ≤ k) : impl_GoodCircuit.f k n g o = some (okCirc n g o) := by
 obtain ⟨k, rfl⟩ : ∃ m, k = m + 1 := ⟨k - 1, by omega⟩
 unfold impl_GoodCircuit.f
 have hj : ∀ m, impl_GoodCircuit.j0 (m + 1) true n g o = some false := by
  intro m
  simp only [impl_GoodCircuit.j0]
  rfl
 by_cases h0 : n < 0
 ·rewrite [if_pos h0, hj, okCirc_no n g o (by omega)]; rfl
 ·rewrite [if_neg h0]
  by_cases h1 : n > 16
  ·rewrite [if_pos h1, hj, okCirc_no n g o (by omega)]; rfl
  ·rewrite [if_neg h1]
   by_cases h2 : (g.length : Int) > 300
   ·rewrite [if_pos h2, hj, okCirc_no n g o (by omega)]; rfl
   ·rewrite [if_neg h2]
    by_cases h3 : (o.length : Int) > 16
    ·rewrite [decide_eq_true h3, hj, okCirc_no n g o (by omega)]; rfl
    ·rewrite [decide_eq_false h3]
     simp only [impl_GoodCircuit.j0]
     have := implCirc_loop n (by omega) (by omega) g (by omega) o g.length 0 k (by omega) (by omega)
     rewrite [Int.natCast_zero, Int.add_zero, List.drop_zero] at this
     rewrite [if_neg (by decide), this]
     unfold okCirc
     rewrite [decide_eq_true (show 0 ≤ n ∧ n ≤ 16 ∧ g.length ≤ 300 ∧ o.length ≤ 16 from ⟨by omega, by omega, by omega, by omega⟩)]
     rfl
theorem szCircuit_val (n : Int) (g : List S82) (o : List Int) (hg : g.length ≤ 9223372036854775807) (ho : o.length ≤ 9223372036854775807) :
  laws_szCircuit.f n g o 1048576 = some (if g.length + o.length ≤ 1048576 then 1048576 - (g.length : Int) - (o.length : Int) else -1) := by
 unfold laws_szCircuit.f
 rewrite [szGate_val g 1048576 (by decide) (by decide) hg]
 simp only [Option.bind_some]
 by_cases h : (1048576 : Int) < (g.length : Int)
 ·rewrite [if_pos h, if_pos (by decide), if_neg (by omega)]; rfl
 ·rewrite [if_neg h, if_neg (by omega), szInt_val o _ (by omega) (by omega) ho]
  simp only [Option.bind_some]
  by_cases h2 : 1048576 - (g.length : Int) < (o.length : Int)
  ·rewrite [if_pos h2, if_pos (by decide), if_neg (by omega)]; rfl
  ·rewrite [if_neg h2, if_neg (by omega), if_pos (by omega)]; rfl
theorem toCircuit_val (k : Nat) (n : Int) (g : List S82) (o : List Int) (h : g.length + o.length ≤ 1048576) (hk : g.length + o.length < k) :
  laws_toCircuit.f k n g o = some (n, g.map convGate, o) := by
 unfold laws_toCircuit.f
 rewrite [toGate_val k g (by omega) (by omega)]
 simp only [Option.bind_some]
 rewrite [toInt_val k o (by omega) (by omega)]
 rfl
theorem eqCircuit_val (k : Nat) (n : Int) (g : List Gt) (o : List Int) (h : g.length + o.length ≤ 1048576) (hk : g.length + o.length < k) :
  laws_eqCircuit.f k n g o n g o = some true := by
 unfold laws_eqCircuit.f
 rewrite [if_pos rfl, eqGate_val k g (by omega) (by omega)]
 simp only [Option.bind_some]
 rewrite [if_pos trivial, eqInt_val k o (by omega) (by omega)]
 rfl
end Go.Proofs.Ytimkjhdopncimaa.Pure

namespace Go.Proofs.Ytimkjhdopncimaa.Pure
open Go.RowKit Go.Proofs.Ytimkjhdopncimaa.X Go.Proofs.YtimkjhdopncimaaW.PrintWords Go.Proofs.YtimkjhdopncimaaW.PrintLast Go.Proofs.YtimkjhdopncimaaW.PrintMore Go.Proofs.Ytimkjhdopncimaa.Bits
/-- A list of n elements, numbered on from m. -/
def mkGate (m : Int) : Nat → List S59
 | 0 => []
 | n + 1 => ⟨m, m + 1, m + 2⟩ :: mkGate (m + 3) n
theorem mkGate_len (n : Nat) : ∀ m, (mkGate m n).length = n := by
 induction n with
 | zero => intro m; rfl
 | succ n ih => intro m; simp [mkGate, ih]
theorem mkGate_snoc (n : Nat) : ∀ m, mkGate m (n + 1) = mkGate m n ++ [⟨m + 3 * (n : Int), m + 3 * (n : Int) + 1, m + 3 * (n : Int) + 2⟩] := by
 induction n with
 | zero => intro m; simp [mkGate]
 | succ n ih =>
  intro m
  rw [mkGate, ih (m + 3), mkGate, List.cons_append]
  have : m + 3 + 3 * (n : Int) = m + 3 * ((n + 1 : Nat) : Int) := by omega
  rw [this]
theorem mkGate_at (m : Int) (n i : Nat) (h : i < n) : rd_T59 (mkGate m n) (i : Int) = ⟨m + 3 * (i : Int), m + 3 * (i : Int) + 1, m + 3 * (i : Int) + 2⟩ := by
 induction n generalizing m i with
 | zero => omega
 | succ n ih =>
  cases i with
  | zero => simp [rd_T59, mkGate]
  | succ i =>
   have := ih (m + 3) i (by omega)
   unfold rd_T59 at this ⊢
   rw [Int.toNat_natCast] at this ⊢
   rw [mkGate, List.getD_cons_succ, this]
   have e : m + 3 + 3 * (i : Int) = m + 3 * ((i + 1 : Nat) : Int) := by omega
   rw [e]
theorem markGate_loop (b : Int) (hb : 0 ≤ b) (hb2 : b ≤ 100000000) (l : List S59) (hl : l.length ≤ 1048576) (d : Nat) : ∀ (i k : Nat), i + d = l.length → d < k →
  laws_markGateS.l0 k (mkGate b i ++ l.drop i) (b + 3 * (i : Int)) (i : Int) = some (b + 3 * (l.length : Int), mkGate b l.length) := by
 induction d with
 | zero =>
  intro i k hi hk
  obtain ⟨k, rfl⟩ : ∃ m, k = m + 1 := ⟨k - 1, by omega⟩
  obtain rfl : i = l.length := by omega
  simp only [laws_markGateS.l0]
  rw [if_neg (by simp [mkGate_len]), List.drop_eq_nil_of_le (by omega), List.append_nil]
 | succ d ih =>
  intro i k hi hk
  obtain ⟨k, rfl⟩ : ∃ m, k = m + 1 := ⟨k - 1, by omega⟩
  have hit : i < l.length := by omega
  have e1 : wrap64 ((i : Int) + 1) = ((i + 1 : Nat) : Int) := by rw [wrap64_id _ (by omega) (by omega)]; omega
  have q0 : wrap64 (b + 3 * (i : Int) + 1) = b + 3 * (i : Int) + 1 := by rw [wrap64_id _ (by omega) (by omega)]
  have q1 : wrap64 (b + 3 * (i : Int) + 1 + 1) = b + 3 * (i : Int) + 2 := by rw [wrap64_id _ (by omega) (by omega)]; omega
  have q2 : wrap64 (b + 3 * (i : Int) + 2 + 1) = b + 3 * ((i + 1 : Nat) : Int) := by rw [wrap64_id _ (by omega) (by omega)]; omega
  have hd : l.drop i = l[i] :: l.drop (i + 1) := List.drop_eq_getElem_cons hit
  have hset : ∀ y z : S59, (mkGate b i ++ y :: l.drop (i + 1)).set i z = mkGate b i ++ z :: l.drop (i + 1) := fun y z => set_mid _ _ _ _ _ (by rw [mkGate_len])
  have hrd : ∀ y : S59, rd_T59 (mkGate b i ++ y :: l.drop (i + 1)) (i : Int) = y := by
   intro y
   rw [rdGate_at (by simp [mkGate_len]), List.getElem_append_right (by rw [mkGate_len]; omega)]
   simp [mkGate_len]
  simp only [laws_markGateS.l0]
  rewrite [if_pos (by simp [mkGate_len]; omega), if_pos (by omega)]
  (try simp only [Option.bind_some])
  rewrite [hd, Int.toNat_natCast, hset, hset, hset, hrd, hrd, hrd, e1, q0, q1, q2]
  have := ih (i + 1) k (by omega) (by omega)
  rw [mkGate_snoc, List.append_assoc] at this
  exact this
theorem markGate_val (k : Nat) (b : Int) (hb : 0 ≤ b) (hb2 : b ≤ 100000000) (l : List S59) (hl : l.length ≤ 1048576) (hk : l.length < k) : laws_markGateS.f k l b = some (b + 3 * (l.length : Int), mkGate b l.length) := by
 have := markGate_loop b hb hb2 l hl l.length 0 k (by omega) hk
 unfold laws_markGateS.f
 simpa [mkGate] using this

/-- A list of n elements, numbered on from m. -/
def mkInt (m : Int) : Nat → List Int
 | 0 => []
 | n + 1 => m :: mkInt (m + 1) n
theorem mkInt_len (n : Nat) : ∀ m, (mkInt m n).length = n := by
 induction n with
 | zero => intro m; rfl
 | succ n ih => intro m; simp [mkInt, ih]
theorem mkInt_snoc (n : Nat) : ∀ m, mkInt m (n + 1) = mkInt m n ++ [m + 1 * (n : Int)] := by
 induction n with
 | zero => intro m; simp [mkInt]
 | succ n ih =>
  intro m
  rw [mkInt, ih (m + 1), mkInt, List.cons_append]
  have : m + 1 + 1 * (n : Int) = m + 1 * ((n + 1 : Nat) : Int) := by omega
  rw [this]
theorem mkInt_at (m : Int) (n i : Nat) (h : i < n) : rd (mkInt m n) (i : Int) = m + 1 * (i : Int) := by
 induction n generalizing m i with
 | zero => omega
 | succ n ih =>
  cases i with
  | zero => simp [rd, mkInt]
  | succ i =>
   have := ih (m + 1) i (by omega)
   unfold rd at this ⊢
   rw [Int.toNat_natCast] at this ⊢
   rw [mkInt, List.getD_cons_succ, this]
   have e : m + 1 + 1 * (i : Int) = m + 1 * ((i + 1 : Nat) : Int) := by omega
   rw [e]
theorem markInt_loop (b : Int) (hb : 0 ≤ b) (hb2 : b ≤ 100000000) (l : List Int) (hl : l.length ≤ 1048576) (d : Nat) : ∀ (i k : Nat), i + d = l.length → d < k →
  laws_markIntS.l0 k (mkInt b i ++ l.drop i) (b + 1 * (i : Int)) (i : Int) = some (b + 1 * (l.length : Int), mkInt b l.length) := by
 induction d with
 | zero =>
  intro i k hi hk
  obtain ⟨k, rfl⟩ : ∃ m, k = m + 1 := ⟨k - 1, by omega⟩
  obtain rfl : i = l.length := by omega
  simp only [laws_markIntS.l0]
  rw [if_neg (by simp [mkInt_len]), List.drop_eq_nil_of_le (by omega), List.append_nil]
 | succ d ih =>
  intro i k hi hk
  obtain ⟨k, rfl⟩ : ∃ m, k = m + 1 := ⟨k - 1, by omega⟩
  have hit : i < l.length := by omega
  have e1 : wrap64 ((i : Int) + 1) = ((i + 1 : Nat) : Int) := by rw [wrap64_id _ (by omega) (by omega)]; omega
  have q0 : wrap64 (b + 1 * (i : Int) + 1) = b + 1 * ((i + 1 : Nat) : Int) := by rw [wrap64_id _ (by omega) (by omega)]; omega
  have hd : l.drop i = l[i] :: l.drop (i + 1) := List.drop_eq_getElem_cons hit
  have hset : ∀ y z : Int, (mkInt b i ++ y :: l.drop (i + 1)).set i z = mkInt b i ++ z :: l.drop (i + 1) := fun y z => set_mid _ _ _ _ _ (by rw [mkInt_len])
  simp only [laws_markIntS.l0]
  rewrite [if_pos (by simp [mkInt_len]; omega), if_pos (by omega)]
  (try simp only [Option.bind_some])
  rewrite [hd, Int.toNat_natCast, hset, e1, q0]
  have := ih (i + 1) k (by omega) (by omega)
  rw [mkInt_snoc, List.append_assoc] at this
  exact this
theorem markInt_val (k : Nat) (b : Int) (hb : 0 ≤ b) (hb2 : b ≤ 100000000) (l : List Int) (hl : l.length ≤ 1048576) (hk : l.length < k) : laws_markIntS.f k l b = some (b + 1 * (l.length : Int), mkInt b l.length) := by
 have := markInt_loop b hb hb2 l hl l.length 0 k (by omega) hk
 unfold laws_markIntS.f
 simpa [mkInt] using this

end Go.Proofs.Ytimkjhdopncimaa.Pure

namespace Go.Proofs.Ytimkjhdopncimaa.Pure
open Go.RowKit Go.Proofs.Ytimkjhdopncimaa.X Go.Proofs.YtimkjhdopncimaaW.PrintWords Go.Proofs.YtimkjhdopncimaaW.PrintLast Go.Proofs.YtimkjhdopncimaaW.PrintMore Go.Proofs.Ytimkjhdopncimaa.Bits
theorem heldGate_loop (b : Int) (hb : 0 ≤ b) (hb2 : b ≤ 100000000) (n : Nat) (hn : n ≤ 1048576) (d : Nat) : ∀ (i k : Nat), i + d = n → d < k →
  laws_heldGateS.l0 k (mkGate b n) (b + 3 * (i : Int)) (i : Int) = some (b + 3 * (n : Int)) := by
 induction d with
 | zero =>
  intro i k hi hk
  obtain ⟨k, rfl⟩ : ∃ m, k = m + 1 := ⟨k - 1, by omega⟩
  obtain rfl : i = n := by omega
  simp only [laws_heldGateS.l0]
  rw [if_neg (by rw [mkGate_len]; omega)]
 | succ d ih =>
  intro i k hi hk
  obtain ⟨k, rfl⟩ : ∃ m, k = m + 1 := ⟨k - 1, by omega⟩
  have e1 : wrap64 ((i : Int) + 1) = ((i + 1 : Nat) : Int) := by rw [wrap64_id _ (by omega) (by omega)]; omega
  have q0 : wrap64 (b + 3 * (i : Int) + 1) = b + 3 * (i : Int) + 1 := by rw [wrap64_id _ (by omega) (by omega)]
  have q1 : wrap64 (b + 3 * (i : Int) + 1 + 1) = b + 3 * (i : Int) + 2 := by rw [wrap64_id _ (by omega) (by omega)]; omega
  have q2 : wrap64 (b + 3 * (i : Int) + 2 + 1) = b + 3 * ((i + 1 : Nat) : Int) := by rw [wrap64_id _ (by omega) (by omega)]; omega
  simp only [laws_heldGateS.l0]
  rewrite [if_pos (by rw [mkGate_len]; omega), if_pos (by omega), mkGate_at b n i (by omega), q0, q1, q2]
  rewrite [if_pos (by rfl), if_pos (by rfl), if_pos (by rfl), e1]
  exact ih (i + 1) k (by omega) (by omega)
theorem heldGate_val (k : Nat) (b : Int) (hb : 0 ≤ b) (hb2 : b ≤ 100000000) (n : Nat) (hn : n ≤ 1048576) (hk : n < k) : laws_heldGateS.f k (mkGate b n) b = some (b + 3 * (n : Int)) := by
 have := heldGate_loop b hb hb2 n hn n 0 k (by omega) hk
 unfold laws_heldGateS.f
 simpa using this

theorem heldInt_loop (b : Int) (hb : 0 ≤ b) (hb2 : b ≤ 100000000) (n : Nat) (hn : n ≤ 1048576) (d : Nat) : ∀ (i k : Nat), i + d = n → d < k →
  laws_heldIntS.l0 k (mkInt b n) (b + 1 * (i : Int)) (i : Int) = some (b + 1 * (n : Int)) := by
 induction d with
 | zero =>
  intro i k hi hk
  obtain ⟨k, rfl⟩ : ∃ m, k = m + 1 := ⟨k - 1, by omega⟩
  obtain rfl : i = n := by omega
  simp only [laws_heldIntS.l0]
  rw [if_neg (by rw [mkInt_len]; omega)]
 | succ d ih =>
  intro i k hi hk
  obtain ⟨k, rfl⟩ : ∃ m, k = m + 1 := ⟨k - 1, by omega⟩
  have e1 : wrap64 ((i : Int) + 1) = ((i + 1 : Nat) : Int) := by rw [wrap64_id _ (by omega) (by omega)]; omega
  have q0 : wrap64 (b + 1 * (i : Int) + 1) = b + 1 * ((i + 1 : Nat) : Int) := by rw [wrap64_id _ (by omega) (by omega)]; omega
  simp only [laws_heldIntS.l0]
  rewrite [if_pos (by rw [mkInt_len]; omega), if_pos (by omega), mkInt_at b n i (by omega), q0]
  rewrite [if_pos (by rfl), e1]
  exact ih (i + 1) k (by omega) (by omega)
theorem heldInt_val (k : Nat) (b : Int) (hb : 0 ≤ b) (hb2 : b ≤ 100000000) (n : Nat) (hn : n ≤ 1048576) (hk : n < k) : laws_heldIntS.f k (mkInt b n) b = some (b + 1 * (n : Int)) := by
 have := heldInt_loop b hb hb2 n hn n 0 k (by omega) hk
 unfold laws_heldIntS.f
 simpa using this

end Go.Proofs.Ytimkjhdopncimaa.Pure

namespace Go.Proofs.Ytimkjhdopncimaa.Pure
open Go.RowKit Go.Proofs.Ytimkjhdopncimaa.X Go.Proofs.YtimkjhdopncimaaW.PrintWords Go.Proofs.YtimkjhdopncimaaW.PrintLast Go.Proofs.YtimkjhdopncimaaW.PrintMore Go.Proofs.Ytimkjhdopncimaa.Bits
theorem okCirc_size {n : Int} {g : List Gt} {o : List Int} (h : okCirc n g o = true) : 0 ≤ n ∧ n ≤ 16 ∧ g.length ≤ 300 ∧ o.length ≤ 16 := by
 by_cases hc : 0 ≤ n ∧ n ≤ 16 ∧ g.length ≤ 300 ∧ o.length ≤ 16
 ·exact hc
 ·rw [okCirc_no n g o hc] at h
  cases h
def listsR (n : Int) (g : List Gt) (o a b : List Int) : Bool := okCirc n g o && (decide (a.length = b.length) && (decide (a.length ≤ 16) && (a.all (below (n + (g.length : Int))) && b.all (below (n + (g.length : Int))))))
theorem listsR_is {n : Int} {g : List Gt} {o a b : List Int} (h : listsR n g o a b = true) : 0 ≤ n ∧ n ≤ 16 ∧ g.length ≤ 300 ∧ o.length ≤ 16 ∧ b.length = a.length ∧ a.length ≤ 16 := by
 unfold listsR at h
 simp only [Bool.and_eq_true, decide_eq_true_eq] at h
 obtain ⟨h1, h2, h3, _⟩ := h
 obtain ⟨e1, e2, e3, e4⟩ := okCirc_size h1
 exact ⟨e1, e2, e3, e4, h2.symm, h3⟩
theorem lists_impl (n : Int) (g : List Gt) (o a b : List Int) (k : Nat) (hk : 400 ≤ k) : impl_areLists.f k n g o a b = some (listsR n g o a b) := by
 unfold impl_areLists.f listsR
 rw [implCirc_val n g o k hk]
 simp only [Option.bind_some]
 by_cases hg : okCirc n g o = true
 ·obtain ⟨e1, e2, e3, e4⟩ := okCirc_size hg
  have hw : impl_Circuit_wires.f n g o = some (n + (g.length : Int)) := by unfold impl_Circuit_wires.f; rw [wrap64_id _ (by omega) (by omega)]
  rw [if_pos hg, hg]
  by_cases h1 : a.length = b.length
  ·rw [if_pos (by omega), decide_eq_true h1]
   by_cases h2 : a.length ≤ 16
   ·rw [if_pos (by omega), decide_eq_true h2, hw]
    simp only [Option.bind_some]
    rw [wiresBelow_val]
    simp only [Option.bind_some]
    by_cases h3 : a.all (below (n + (g.length : Int))) = true
    ·rw [if_pos h3, wiresBelow_val, h3]
     rfl
    ·rw [if_neg h3, Bool.eq_false_iff.mpr h3]
     rfl
   ·rw [if_neg (by omega), decide_eq_false h2]
    rfl
  ·rw [if_neg (by omega), decide_eq_false h1]
   rfl
 ·rw [if_neg hg, Bool.eq_false_iff.mpr hg]
  rfl
theorem lists_spec (n : Int) (g : List Gt) (o a b : List Int) (k : Nat) (hk : 400 ≤ k) : spec_l4Lists.f k n g o a b = some (listsR n g o a b) := by
 unfold spec_l4Lists.f listsR
 rw [specCirc_val n g o k hk]
 simp only [Option.bind_some]
 by_cases hg : okCirc n g o = true
 ·obtain ⟨e1, e2, e3, e4⟩ := okCirc_size hg
  have hw : spec_l4Wires.f n g o = some (n + (g.length : Int)) := by unfold spec_l4Wires.f; rw [wrap64_id _ (by omega) (by omega)]
  rw [if_pos hg, hg]
  by_cases h1 : a.length = b.length
  ·rw [if_pos (by omega), decide_eq_true h1]
   by_cases h2 : a.length ≤ 16
   ·rw [if_pos (by omega), decide_eq_true h2, hw]
    simp only [Option.bind_some]
    rw [wrap64_id _ (by omega) (by omega), l1All_val _ a (by omega) k (by omega)]
    simp only [Option.bind_some]
    by_cases h3 : a.all (below (n + (g.length : Int))) = true
    ·rw [if_pos h3, l1All_val _ b (by omega) k (by omega), h3]
     rfl
    ·rw [if_neg h3, Bool.eq_false_iff.mpr h3]
     rfl
   ·rw [if_neg (by omega), decide_eq_false h2]
    rfl
  ·rw [if_neg (by omega), decide_eq_false h1]
   rfl
 ·rw [if_neg hg, Bool.eq_false_iff.mpr hg]
  rfl
theorem copy_val (n : Int) (g : List Gt) (o : List Int) (hg : g.length ≤ 300) (ho : o.length ≤ 16) : impl_copyCircuit.f n g o = some (n, g, o) := by
 unfold impl_copyCircuit.f slices_Clone_impl_Gate.f slices_Clone_int.f
 simp only [Option.bind_some, List.length_nil, List.nil_append]
 rw [if_pos (by omega)]
 simp only [Option.bind_some]
 rw [if_pos (by omega)]
 rfl
theorem own_val (n : Int) (g : List Gt) (o : List Int) (hg : g.length ≤ 300) (ho : o.length ≤ 16) : spec_l4Own.f n g o = some (n, g, o) := by
 unfold spec_l4Own.f spec_l1Own.f
 simp only [Option.bind_some, List.length_nil, List.nil_append]
 rw [if_pos (by omega), if_pos (by omega)]
 rfl
theorem markCircuit_val (k : Nat) (b n : Int) (hb : 0 ≤ b) (hb2 : b ≤ 1000000) (g : List Gt) (o : List Int) (h : g.length + o.length ≤ 1048576) (hk : g.length + o.length < k) :
  laws_markCircuit.f k n g o b = some (b + 3 * (g.length : Int) + 1 * (o.length : Int), mkGate b g.length, mkInt (b + 3 * (g.length : Int)) o.length) := by
 unfold laws_markCircuit.f
 rewrite [markGate_val k b hb (by omega) g (by omega) (by omega)]
 simp only [Option.bind_some]
 rewrite [markInt_val k _ (by omega) (by omega) o (by omega) (by omega)]
 rfl
theorem heldCircuit_val (k : Nat) (b n : Int) (hb : 0 ≤ b) (hb2 : b ≤ 1000000) (gl ol : Nat) (h : gl + ol ≤ 1048576) (hk : gl + ol < k) :
  laws_heldCircuit.f k n (mkGate b gl) (mkInt (b + 3 * (gl : Int)) ol) b = some (b + 3 * (gl : Int) + 1 * (ol : Int)) := by
 unfold laws_heldCircuit.f
 rewrite [heldGate_val k b hb (by omega) gl (by omega) (by omega)]
 simp only [Option.bind_some]
 rewrite [if_neg (by omega), heldInt_val k _ (by omega) (by omega) ol (by omega) (by omega)]
 simp only [Option.bind_some]
 rw [if_neg (by omega)]
end Go.Proofs.Ytimkjhdopncimaa.Pure

namespace Go.Proofs.Ytimkjhdopncimaa.Pure
open Go.RowKit Go.Proofs.Ytimkjhdopncimaa.X Go.Proofs.YtimkjhdopncimaaW.PrintWords Go.Proofs.YtimkjhdopncimaaW.PrintLast Go.Proofs.YtimkjhdopncimaaW.PrintMore Go.Proofs.Ytimkjhdopncimaa.Bits
/-- What EqGates answers. -/
def EqGatesR (n : Int) (g : List Gt) (o a b : List Int) : Int × List Gt × List Int × Int × Bool :=
 if listsR n g o a b = true then (if okCirc n (eqN n a b g a.length).1 o = true then (n, (eqN n a b g a.length).1, o, (eqN n a b g a.length).2, true) else (0, [], [], 0, false)) else (0, [], [], 0, false)
theorem EqGatesR_len (n : Int) (g : List Gt) (o a b : List Int) : (EqGatesR n g o a b).2.1.length + (EqGatesR n g o a b).2.2.1.length ≤ 1000 := by
 unfold EqGatesR
 split
 ·rename_i h
  have h := h
  obtain ⟨_, _, h3, h4, _, h6⟩ := listsR_is h
  have hl := eqN_len n a b g a.length
  split
  ·dsimp only
   omega
  ·simp
 ·simp
theorem EqGates_spec (n : Int) (g : List Gt) (o a b : List Int) (k : Nat) (hk : 400 ≤ k) : spec_EqGates.f k n g o a b = some (EqGatesR n g o a b) := by
 unfold spec_EqGates.f EqGatesR
 rw [lists_spec n g o a b k hk]
 simp only [Option.bind_some]
 by_cases h : listsR n g o a b = true
 ·obtain ⟨hn0, hn1, hgl, hol, hbl, hal⟩ := listsR_is h
  rw [if_pos h, if_pos h]
  rw [own_val n g o hgl hol]
  simp only [Option.bind_some]
  rw [if_pos ⟨by omega, by omega, by omega, by omega, hbl⟩, specCirc_val _ _ _ k hk]
  simp only [Option.bind_some]
  split <;> rfl
 ·rw [if_neg h, if_neg h]
theorem EqGates_impl (n : Int) (g : List Gt) (o a b : List Int) (k : Nat) (hk : 400 ≤ k) : impl_EqGates.f k n g o a b = some (EqGatesR n g o a b) := by
 unfold impl_EqGates.f EqGatesR
 rw [lists_impl n g o a b k hk]
 simp only [Option.bind_some]
 by_cases h : listsR n g o a b = true
 ·obtain ⟨hn0, hn1, hgl, hol, hbl, hal⟩ := listsR_is h
  rw [if_pos h, if_pos h]
  rw [copy_val n g o hgl hol]
  simp only [Option.bind_some]
  rw [if_pos ⟨by omega, by omega, by omega, by omega, hbl⟩, implCirc_val _ _ _ k hk]
  simp only [Option.bind_some]
  split <;> rfl
 ·rw [if_neg h, if_neg h]
theorem FnExactEqGates : laws_FnExactEqGates.Pure := by
 intro n g o a b _ hg ho ha hb
 have hgl := hg.1
 have hol := ho.1
 have hal := ha.1
 have hbl := hb.1
 simp only [maxLen] at hgl hol hal hbl
 refine ⟨g.length + o.length + a.length + b.length + 5003, ?_⟩
 obtain ⟨q, hq⟩ : ∃ q, g.length + o.length + a.length + b.length + 5000 = q := ⟨_, rfl⟩
 rw [show g.length + o.length + a.length + b.length + 5003 = q + 3 by omega]
 unfold laws_FnExactEqGates.f
 by_cases ba : (a.length : Int) > 1048576
 ·rw [if_pos ba]
 rewrite [if_neg ba]
 by_cases bb : (b.length : Int) > 1048576
 ·rw [if_pos bb]
 rewrite [if_neg bb, szCircuit_val n g o hgl hol]
 simp only [Option.bind_some]
 by_cases hs : g.length + o.length ≤ 1048576
 ·have hgc : (g.map convGate).length = g.length := List.length_map ..
  rewrite [if_pos hs, if_neg (by omega), toCircuit_val _ n g o hs (by omega)]
  simp only [Option.bind_some]
  rewrite [toInt_val _ a (by omega) (by omega)]
  simp only [Option.bind_some]
  rewrite [toInt_val _ b (by omega) (by omega)]
  simp only [Option.bind_some]
  have hS := fun k hk => EqGates_spec n (g.map convGate) o a b k hk
  have hI := fun k hk => EqGates_impl n (g.map convGate) o a b k hk
  have hr := EqGatesR_len n (g.map convGate) o a b
  obtain ⟨n2, g2, o2, r2, b2, hres⟩ : ∃ n2 g2 o2 r2 b2, EqGatesR n (g.map convGate) o a b = (n2, g2, o2, r2, b2) := ⟨_, _, _, _, _, rfl⟩
  simp only [hres] at hS hI hr
  have hbb : (b2 != b2) = false := by simp
  rewrite [hS _ (by omega)]
  simp only [Option.bind_some]
  rewrite [hI _ (by omega)]
  simp only [Option.bind_some]
  rewrite [eqCircuit_val _ n2 g2 o2 (by omega) (by omega)]
  simp only [Option.bind_some, if_true, laws_FnExactEqGates.j0, hbb, Bool.false_eq_true, if_false]
  rewrite [toCircuit_val _ n g o hs (by omega)]
  simp only [Option.bind_some]
  rewrite [eqCircuit_val _ n _ o (by omega) (by omega)]
  simp only [Option.bind_some, if_true]
  rewrite [toInt_val _ a (by omega) (by omega)]
  simp only [Option.bind_some]
  rewrite [eqInt_val _ a (by omega) (by omega)]
  simp only [Option.bind_some, if_true]
  rewrite [toInt_val _ b (by omega) (by omega)]
  simp only [Option.bind_some]
  rewrite [eqInt_val _ b (by omega) (by omega)]
  simp only [Option.bind_some, if_true]
  rewrite [markCircuit_val _ 1 n (by omega) (by omega) (g.map convGate) o (by omega) (by omega)]
  simp only [Option.bind_some]
  rewrite [markInt_val _ _ (by omega) (by omega) a (by omega) (by omega)]
  simp only [Option.bind_some]
  rewrite [markInt_val _ _ (by omega) (by omega) b (by omega) (by omega)]
  simp only [Option.bind_some]
  rewrite [if_neg (by omega)]
  rewrite [eqCircuit_val _ n2 g2 o2 (by omega) (by omega)]
  simp only [Option.bind_some, if_true, laws_FnExactEqGates.j1, Bool.false_eq_true, if_false]
  rewrite [markCircuit_val _ 1 n2 (by omega) (by omega) g2 o2 (by omega) (by omega)]
  simp only [Option.bind_some]
  rewrite [heldCircuit_val _ 1 n2 (by omega) (by omega) g2.length o2.length (by omega) (by omega)]
  simp only [Option.bind_some]
  rewrite [if_neg (by omega)]
  simp only [if_true]
  rewrite [toCircuit_val _ n g o hs (by omega)]
  simp only [Option.bind_some]
  rewrite [toInt_val _ a (by omega) (by omega)]
  simp only [Option.bind_some]
  rewrite [toInt_val _ b (by omega) (by omega)]
  simp only [Option.bind_some]
  rewrite [hI _ (by omega)]
  simp only [Option.bind_some]
  rewrite [eqCircuit_val _ n2 g2 o2 (by omega) (by omega)]
  simp only [Option.bind_some, if_true, laws_FnExactEqGates.j2, hbb, Bool.false_eq_true, if_false]
  rewrite [heldCircuit_val _ 1 n2 (by omega) (by omega) g2.length o2.length (by omega) (by omega)]
  simp only [Option.bind_some]
  rewrite [if_neg (by omega)]
  rfl
 ·rewrite [if_neg hs, if_pos (by decide)]; rfl
end Go.Proofs.Ytimkjhdopncimaa.Pure
