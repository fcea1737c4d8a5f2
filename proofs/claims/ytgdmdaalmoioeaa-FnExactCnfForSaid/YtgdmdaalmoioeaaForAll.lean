/- Bits of 64-bit words as the model tells them: and, or, xor, shifts and masks as remainders and powers of two. No condition. The laws' own list functions (copying, comparing, measuring, writing over, looking again) come to plain lists. Conditions: lists no longer than 2^20. Written by wip/xp/lists.py. The law over circuits' validity: both sides come to one plain test. Conditions: a circuit of this machine's word. The laws' own list functions (copying, comparing, measuring, writing over, looking again) come to plain lists. Conditions: lists no longer than 2^20. Written by wip/xp/lists.py. The laws' own list functions (copying, comparing, measuring, writing over, looking again) come to plain lists. Conditions: lists no longer than 2^20. Written by wip/xp/lists.py. The laws' own list functions (copying, comparing, measuring, writing over, looking again) come to plain lists. Conditions: lists no longer than 2^20. Written by wip/xp/lists.py. The law on GoodCnf: both sides come to one plain test of the clauses. Conditions: those of the law's own Pure. Both ways to write a circuit's clauses give the same list. Conditions: a good circuit, or any other, where both refuse. The law on CnfFor: both sides give the same clauses, which marks write over row by row. Conditions: those of the law's own Pure. -/
import Derived.Test.YtgdmdaalmoioeaaWMore
import Derived.Laws.BitsLemmas
import Derived.Test.YtgdmdaalmoioeaaXO
import Derived.Test.YtgdmdaalmoioeaaX1
import Derived.Test.YtgdmdaalmoioeaaX9
import Derived.Test.YtgdmdaalmoioeaaX12
import Derived.Test.YtgdmdaalmoioeaaX14
import Derived.Test.YtgdmdaalmoioeaaX15
import Derived.Test.YtgdmdaalmoioeaaX19
import Derived.Test.YtgdmdaalmoioeaaX20
import Derived.Test.YtgdmdaalmoioeaaX22
import Derived.Test.YtgdmdaalmoioeaaX23
import Derived.Test.YtgdmdaalmoioeaaX24
import Derived.Test.YtgdmdaalmoioeaaX28
import Derived.Test.YtgdmdaalmoioeaaX4
import Derived.Test.YtgdmdaalmoioeaaX5
import Derived.Test.YtgdmdaalmoioeaaX6
import Derived.Test.YtgdmdaalmoioeaaX8
namespace Go.Proofs.Ytgdmdaalmoioeaa.Bits
open Go.RowKit Go.Proofs.YtgdmdaalmoioeaaW.PrintWords

theorem wrap64_id (n : Int) (h0 : -9223372036854775808 ≤ n) (h1 : n ≤ 9223372036854775807) : wrap64 n = n := by unfold wrap64; omega

/-- The words of a width. -/
def word (w a : Int) : Prop := 1 ≤ w ∧ w ≤ 64 ∧ 0 ≤ a ∧ a < 2 ^ w.toNat
instance (w a : Int) : Decidable (word w a) := by unfold word; infer_instance
end Go.Proofs.Ytgdmdaalmoioeaa.Bits

namespace Go.Proofs.Ytgdmdaalmoioeaa.Pure
open Go.RowKit Go.Proofs.Ytgdmdaalmoioeaa.X Go.Proofs.YtgdmdaalmoioeaaW.PrintWords Go.Proofs.YtgdmdaalmoioeaaW.PrintLast Go.Proofs.YtgdmdaalmoioeaaW.PrintMore Go.Proofs.Ytgdmdaalmoioeaa.Bits
theorem set_mid {α : Type} (a b : List α) (x y : α) (n : Nat) (h : n = a.length) : (a ++ x :: b).set n y = a ++ y :: b := by
 subst h; simp
def convGate (x : S67) : S54 := ⟨x.f0, x.f1, x.f2⟩
theorem rdGate_at {t : List S54} {i : Nat} (h : i < t.length) : rd_T54 t (i : Int) = t[i] := by
 unfold rd_T54
 rw [Int.toNat_natCast, List.getD_eq_getElem?_getD, List.getElem?_eq_getElem h]; rfl
theorem rdlGate_at {t : List S67} {i : Nat} (h : i < t.length) : rd_T67 t (i : Int) = t[i] := by
 unfold rd_T67
 rw [Int.toNat_natCast, List.getD_eq_getElem?_getD, List.getElem?_eq_getElem h]; rfl
theorem szGate_val (l : List S67) (left : Int) (h0 : 0 ≤ left) (h1 : left ≤ 1048576) (hl : l.length ≤ 9223372036854775807) : laws_szGateS.f l left = some (if left < (l.length : Int) then -1 else left - (l.length : Int)) := by
 unfold laws_szGateS.f
 rw [wrap64_id _ (by omega) (by omega)]
 by_cases h : left < (l.length : Int)
 ·rw [if_pos (by omega), if_pos h]
 ·rw [if_neg (by omega), if_neg h]
theorem toGate_loop (l : List S67) (hl : l.length ≤ 1048576) (d : Nat) : ∀ (i : Nat) (k : Nat), i + d = l.length → d < k →
  laws_toGateS.l0 k l (((l.take i).map convGate) ++ List.replicate d z54) (i : Int) = some (l.map convGate) := by
 induction d with
 | zero =>
  intro i k hi hk
  obtain ⟨k, rfl⟩ : ∃ m, k = m + 1 := ⟨k - 1, by omega⟩
  simp only [laws_toGateS.l0]
  rw [if_neg (by omega), List.take_of_length_le (by omega)]
  simp
 | succ d ih =>
  intro i k hi hk
  obtain ⟨k, rfl⟩ : ∃ m, k = m + 1 := ⟨k - 1, by omega⟩
  have hit : i < l.length := by omega
  have e1 : wrap64 ((i : Int) + 1) = ((i + 1 : Nat) : Int) := by rw [wrap64_id _ (by omega) (by omega)]; omega
  simp only [laws_toGateS.l0]
  rewrite [if_pos (by omega), if_pos (by omega)]
  unfold laws_toGate.f
  simp only [Option.bind_some]
  rewrite [if_pos (by simp; omega), rdlGate_at hit, e1, Int.toNat_natCast, List.replicate_succ, set_mid _ _ _ _ _ (by simp; omega)]
  have h2 : ((l.take i).map convGate) ++ (⟨l[i].f0, l[i].f1, l[i].f2⟩ : S54) :: List.replicate d z54 = ((l.take (i + 1)).map convGate) ++ List.replicate d z54 := by
   rw [List.take_add_one, List.getElem?_eq_getElem hit, Option.toList_some, List.map_append, List.append_assoc]
   rfl
  rewrite [h2]
  exact ih (i + 1) k (by omega) (by omega)
theorem toGate_val (k : Nat) (l : List S67) (hl : l.length ≤ 1048576) (hk : l.length < k) : laws_toGateS.f k l = some (l.map convGate) := by
 unfold laws_toGateS.f
 rw [if_pos (by omega), Int.toNat_natCast, if_pos (by omega)]
 have := toGate_loop l hl l.length 0 k (by omega) hk
 simpa using this
theorem eqGate_loop (l : List S54) (hl : l.length ≤ 1048576) (d : Nat) : ∀ (i : Nat) (k : Nat), i + d = l.length → d < k → laws_eqGateS.l0 k l l (i : Int) = some true := by
 induction d with
 | zero =>
  intro i k hi hk
  obtain ⟨k, rfl⟩ : ∃ m, k = m + 1 := ⟨k - 1, by omega⟩
  simp only [laws_eqGateS.l0]
  rw [if_neg (by omega)]
 | succ d ih =>
  intro i k hi hk
  obtain ⟨k, rfl⟩ : ∃ m, k = m + 1 := ⟨k - 1, by omega⟩
  have e1 : wrap64 ((i : Int) + 1) = ((i + 1 : Nat) : Int) := by rw [wrap64_id _ (by omega) (by omega)]; omega
  simp only [laws_eqGateS.l0]
  rewrite [if_pos (by omega), if_pos (by omega), if_pos (by omega)]
  unfold laws_eqGate.f
  rewrite [if_pos rfl, if_pos rfl, if_pos rfl]
  simp only [Option.bind_some, if_true]
  rewrite [e1]
  exact ih (i + 1) k (by omega) (by omega)
theorem eqGate_val (k : Nat) (l : List S54) (hl : l.length ≤ 1048576) (hk : l.length < k) : laws_eqGateS.f k l l = some true := by
 unfold laws_eqGateS.f
 rw [if_pos rfl]
 exact eqGate_loop l hl l.length 0 k (by omega) hk

theorem rdInt_at {t : List Int} {i : Nat} (h : i < t.length) : rd t (i : Int) = t[i] := by
 unfold rd
 rw [Int.toNat_natCast, List.getD_eq_getElem?_getD, List.getElem?_eq_getElem h]; rfl
theorem szInt_val (l : List Int) (left : Int) (h0 : 0 ≤ left) (h1 : left ≤ 1048576) (hl : l.length ≤ 9223372036854775807) : laws_szIntS.f l left = some (if left < (l.length : Int) then -1 else left - (l.length : Int)) := by
 unfold laws_szIntS.f
 rw [wrap64_id _ (by omega) (by omega)]
 by_cases h : left < (l.length : Int)
 ·rw [if_pos (by omega), if_pos h]
 ·rw [if_neg (by omega), if_neg h]
theorem toInt_loop (l : List Int) (hl : l.length ≤ 1048576) (d : Nat) : ∀ (i : Nat) (k : Nat), i + d = l.length → d < k →
  laws_toIntS.l0 k l ((l.take i) ++ List.replicate d 0) (i : Int) = some (l) := by
 induction d with
 | zero =>
  intro i k hi hk
  obtain ⟨k, rfl⟩ : ∃ m, k = m + 1 := ⟨k - 1, by omega⟩
  simp only [laws_toIntS.l0]
  rw [if_neg (by omega), List.take_of_length_le (by omega)]
  simp
 | succ d ih =>
  intro i k hi hk
  obtain ⟨k, rfl⟩ : ∃ m, k = m + 1 := ⟨k - 1, by omega⟩
  have hit : i < l.length := by omega
  have e1 : wrap64 ((i : Int) + 1) = ((i + 1 : Nat) : Int) := by rw [wrap64_id _ (by omega) (by omega)]; omega
  simp only [laws_toIntS.l0]
  rewrite [if_pos (by omega), if_pos (by omega)]
  rewrite [if_pos (by simp; omega), rdInt_at hit, e1, Int.toNat_natCast, List.replicate_succ, set_mid _ _ _ _ _ (by simp; omega)]
  have h2 : (l.take i) ++ l[i] :: List.replicate d 0 = (l.take (i + 1)) ++ List.replicate d 0 := by
   rw [List.take_add_one, List.getElem?_eq_getElem hit, Option.toList_some, List.append_assoc]
   rfl
  rewrite [h2]
  exact ih (i + 1) k (by omega) (by omega)
theorem toInt_val (k : Nat) (l : List Int) (hl : l.length ≤ 1048576) (hk : l.length < k) : laws_toIntS.f k l = some (l) := by
 unfold laws_toIntS.f
 rw [if_pos (by omega), Int.toNat_natCast, if_pos (by omega)]
 have := toInt_loop l hl l.length 0 k (by omega) hk
 simpa using this
theorem eqInt_loop (l : List Int) (hl : l.length ≤ 1048576) (d : Nat) : ∀ (i : Nat) (k : Nat), i + d = l.length → d < k → laws_eqIntS.l0 k l l (i : Int) = some true := by
 induction d with
 | zero =>
  intro i k hi hk
  obtain ⟨k, rfl⟩ : ∃ m, k = m + 1 := ⟨k - 1, by omega⟩
  simp only [laws_eqIntS.l0]
  rw [if_neg (by omega)]
 | succ d ih =>
  intro i k hi hk
  obtain ⟨k, rfl⟩ : ∃ m, k = m + 1 := ⟨k - 1, by omega⟩
  have e1 : wrap64 ((i : Int) + 1) = ((i + 1 : Nat) : Int) := by rw [wrap64_id _ (by omega) (by omega)]; omega
  simp only [laws_eqIntS.l0]
  rewrite [if_pos (by omega), if_pos (by omega), if_pos (by omega)]
  rewrite [if_pos trivial]
  rewrite [e1]
  exact ih (i + 1) k (by omega) (by omega)
theorem eqInt_val (k : Nat) (l : List Int) (hl : l.length ≤ 1048576) (hk : l.length < k) : laws_eqIntS.f k l l = some true := by
 unfold laws_eqIntS.f
 rw [if_pos rfl]
 exact eqInt_loop l hl l.length 0 k (by omega) hk

end Go.Proofs.Ytgdmdaalmoioeaa.Pure

namespace Go.Proofs.Ytgdmdaalmoioeaa.Pure
open Go.RowKit Go.Proofs.Ytgdmdaalmoioeaa.X Go.Proofs.YtgdmdaalmoioeaaW.PrintWords Go.Proofs.YtgdmdaalmoioeaaW.PrintLast Go.Proofs.YtgdmdaalmoioeaaW.PrintMore Go.Proofs.Ytgdmdaalmoioeaa.Bits
abbrev Gt := S54
/-- A wire's number below a bound. -/
def below (w x : Int) : Bool := decide (0 ≤ x) && decide (x < w)
/-- A gate that may have the wire w. -/
def okGate (w : Int) (g : Gt) : Bool :=
 if g.f0 = 1 then below 2 g.f1 && decide (g.f2 = 0)
 else if g.f0 = 2 then below w g.f1 && decide (g.f2 = 0)
 else if 3 ≤ g.f0 ∧ g.f0 ≤ 5 then below w g.f1 && below w g.f2 else false
def okGates : Int → List Gt → Bool
 | _, [] => true
 | w, g :: r => okGate w g && okGates (w + 1) r
def okCirc (n : Int) (g : List Gt) (o : List Int) : Bool :=
 decide (0 ≤ n ∧ n ≤ 16 ∧ g.length ≤ 300 ∧ o.length ≤ 16) && (okGates n g && o.all (below (n + (g.length : Int))))
theorem offWire_eq (w x : Int) : offWire w x = !below w x := by
 unfold offWire below
 by_cases h : x < 0
 ·rw [decide_eq_true h, decide_eq_false (show ¬ (0 ≤ x) by omega)]; rfl
 ·rw [decide_eq_false h, decide_eq_true (show 0 ≤ x by omega)]
  by_cases h2 : x < w
  ·rw [decide_eq_true h2, decide_eq_false (show ¬ (w ≤ x) by omega)]; rfl
  ·rw [decide_eq_false h2, decide_eq_true (show w ≤ x by omega)]; rfl
theorem l1In_below (x w : Int) : spec_l1In.f x 0 (w - 1) = some (below w x) := by
 unfold spec_l1In.f below
 by_cases h : x ≥ 0
 ·rw [if_pos h, decide_eq_true (show 0 ≤ x from h), Bool.true_and]
  congr 1
  exact decide_eq_decide.mpr (by omega)
 ·rw [if_neg h, decide_eq_false (show ¬ (0 ≤ x) from h)]; rfl
theorem wiresBelow_val (l : List Int) (w : Int) : impl_areWiresBelow.f l w = some (l.all (below w)) := by
 unfold impl_areWiresBelow.f impl_areWiresBelow_any.f
 simp only [Option.bind_some]
 congr 1
 induction l with
 | nil => rfl
 | cons x t ih =>
  rw [List.any_cons, List.all_cons, Bool.not_or, ih, offWire_eq, Bool.not_not]
theorem l1All_loop (w : Int) (l : List Int) (hl : l.length ≤ 1048576) (d : Nat) : ∀ (i k : Nat), i + d = l.length → d < k →
  spec_l1All.l0 k 0 (w - 1) l (l.length : Int) (i : Int) = some ((l.drop i).all (below w)) := by
 induction d with
 | zero =>
  intro i k hi hk
  obtain ⟨k, rfl⟩ : ∃ m, k = m + 1 := ⟨k - 1, by omega⟩
  simp only [spec_l1All.l0]
  rw [if_neg (by omega), List.drop_eq_nil_of_le (by omega)]; rfl
 | succ d ih =>
  intro i k hi hk
  obtain ⟨k, rfl⟩ : ∃ m, k = m + 1 := ⟨k - 1, by omega⟩
  have hit : i < l.length := by omega
  have e1 : wrap64 ((i : Int) + 1) = ((i + 1 : Nat) : Int) := by rw [wrap64_id _ (by omega) (by omega)]; omega
  have hd : l.drop i = l[i] :: l.drop (i + 1) := List.drop_eq_getElem_cons hit
  simp only [spec_l1All.l0]
  rewrite [if_pos (by omega), if_pos (by omega), if_pos (by omega), rdInt_at hit, l1In_below, hd, List.all_cons]
  simp only [Option.bind_some]
  cases hb : below w l[i] with
  | false => rewrite [if_neg (by decide)]; rfl
  | true => rewrite [if_pos rfl, e1, ih (i + 1) k (by omega) (by omega)]; rfl
theorem l1All_val (w : Int) (l : List Int) (hl : l.length ≤ 1048576) (k : Nat) (hk : l.length < k) : spec_l1All.f k l 0 (w - 1) = some (l.all (below w)) :=
 l1All_loop w l hl l.length 0 k (by omega) hk
theorem eq0_dec (x : Int) : (x == 0) = decide (x = 0) := rfl
theorem spec_gate (g : Gt) (w : Int) (hw : -1000000 ≤ w) (hw2 : w ≤ 1000000) (k : Nat) (hk : 1 ≤ k) : spec_l4Gate.f k g.f0 g.f1 g.f2 w = some (okGate w g) := by
 obtain ⟨k, rfl⟩ : ∃ m, k = m + 1 := ⟨k - 1, by omega⟩
 have ew : wrap64 (w - 1) = w - 1 := wrap64_id _ (by omega) (by omega)
 have hj : ∀ b, spec_l4Gate.j0 (k + 1) w b g.f0 g.f1 g.f2 = some (b && (below w g.f1 && below w g.f2)) := by
  intro b
  simp only [spec_l4Gate.j0]
  rewrite [ew, l1In_below, l1In_below]
  cases b with
  | false => rfl
  | true =>
   rewrite [if_pos rfl]
   simp only [Option.bind_some]
   cases below w g.f1 <;> rfl
 have e2 : spec_l1In.f g.f1 0 1 = some (below 2 g.f1) := l1In_below g.f1 2
 unfold spec_l4Gate.f okGate
 rewrite [ew, l1In_below, e2]
 simp only [Option.bind_some, hj, eq0_dec]
 by_cases h1 : g.f0 = 1
 ·rewrite [if_pos h1, if_pos h1]
  cases below 2 g.f1 <;> rfl
 ·rewrite [if_neg h1, if_neg h1]
  by_cases h2 : g.f0 = 2
  ·rewrite [if_pos h2, if_pos h2]
   cases below w g.f1 <;> rfl
  ·rewrite [if_neg h2, if_neg h2]
   by_cases h3 : g.f0 = 3
   ·rewrite [if_pos h3, if_pos (by omega), beq_iff_eq.mpr h3]; rfl
   ·rewrite [if_neg h3]
    by_cases h4 : g.f0 = 4
    ·rewrite [if_pos h4, if_pos (by omega), beq_iff_eq.mpr h4]; rfl
    ·rewrite [if_neg h4]
     by_cases h5 : g.f0 = 5
     ·rewrite [if_pos (by omega), beq_iff_eq.mpr h5]; rfl
     ·rewrite [if_neg (by omega), beq_eq_false_iff_ne.mpr h5]; rfl
theorem impl_gate (g : Gt) (w : Int) (k : Nat) (hk : 3 ≤ k) : impl_isGate.f k g.f0 g.f1 g.f2 w = some (okGate w g) := by
 obtain ⟨k, rfl⟩ : ∃ m, k = m + 3 := ⟨k - 3, by omega⟩
 unfold impl_isGate.f okGate
 by_cases ha : g.f0 < 1
 ·rewrite [if_pos ha, if_neg (by omega), if_neg (by omega), if_neg (by omega)]
  simp only [impl_isGate.j0]
  rfl
 ·rewrite [if_neg ha]
  by_cases hb : g.f0 > 5
  ·rewrite [decide_eq_true hb, if_neg (by omega), if_neg (by omega), if_neg (by omega)]
   simp only [impl_isGate.j0]
   rfl
  ·rewrite [decide_eq_false hb]
   simp only [impl_isGate.j0]
   rewrite [if_neg (by decide)]
   by_cases h1 : g.f0 = 1
   ·rewrite [if_pos h1, if_pos h1]
    unfold below
    by_cases h2 : g.f1 < 0
    ·rewrite [if_pos h2, decide_eq_false (show ¬ (0 ≤ g.f1) by omega)]
     simp only [impl_isGate.j1]
     rfl
    ·rewrite [if_neg h2, decide_eq_true (show 0 ≤ g.f1 by omega)]
     by_cases h3 : g.f1 > 1
     ·rewrite [decide_eq_true h3, decide_eq_false (show ¬ (g.f1 < 2) by omega)]
      simp only [impl_isGate.j1]
      rfl
     ·rewrite [decide_eq_false h3, decide_eq_true (show g.f1 < 2 by omega)]
      simp only [impl_isGate.j1]
      rewrite [if_neg (by decide), if_pos (by omega)]
      by_cases h4 : g.f2 = 0
      ·rewrite [decide_eq_true h4, bne_eq_false_iff_eq.mpr h4]
       simp only [impl_isGate.j2]
       rewrite [if_neg (by decide)]
       unfold impl_Gate_uses.f
       rewrite [if_pos h1]
       simp only [Option.bind_some]
       rewrite [wiresBelow_val]
       rfl
      ·rewrite [decide_eq_false h4, bne_iff_ne.mpr h4]
       simp only [impl_isGate.j2]
       rfl
   ·rewrite [if_neg h1, if_neg h1]
    simp only [impl_isGate.j1]
    rewrite [if_neg (by decide)]
    by_cases h2 : g.f0 = 2
    ·rewrite [if_pos (by omega), if_pos h2]
     by_cases h4 : g.f2 = 0
     ·rewrite [decide_eq_true h4, bne_eq_false_iff_eq.mpr h4]
      simp only [impl_isGate.j2]
      rewrite [if_neg (by decide)]
      unfold impl_Gate_uses.f
      rewrite [if_neg h1, if_pos h2]
      simp only [Option.bind_some]
      rewrite [wiresBelow_val]
      rfl
     ·rewrite [decide_eq_false h4, bne_iff_ne.mpr h4, Bool.and_false]
      simp only [impl_isGate.j2]
      rfl
    ·rewrite [if_neg (by omega), if_neg h2, if_pos (by omega)]
     simp only [impl_isGate.j2]
     rewrite [if_neg (by decide)]
     unfold impl_Gate_uses.f
     rewrite [if_neg h1, if_neg h2]
     simp only [Option.bind_some]
     rewrite [wiresBelow_val]
     simp only [List.all_cons, List.all_nil, Bool.and_true]
     rfl
theorem specCirc_loop (n : Int) (h0 : 0 ≤ n) (h1 : n ≤ 16) (g : List Gt) (hg : g.length ≤ 300) (o : List Int) (ho : o.length ≤ 16) (d : Nat) : ∀ (i k : Nat), i + d = g.length → d + 20 < k →
  spec_GoodCircuit.l0 k g (g.length : Int) (i : Int) n g o = some (okGates (n + (i : Int)) (g.drop i) && o.all (below (n + (g.length : Int)))) := by
 induction d with
 | zero =>
  intro i k hi hk
  obtain ⟨k, rfl⟩ : ∃ m, k = m + 1 := ⟨k - 1, by omega⟩
  have ew : wrap64 (n + (g.length : Int)) = n + (g.length : Int) := wrap64_id _ (by omega) (by omega)
  have ew2 : wrap64 (n + (g.length : Int) - 1) = n + (g.length : Int) - 1 := wrap64_id _ (by omega) (by omega)
  simp only [spec_GoodCircuit.l0]
  rewrite [if_neg (by omega), List.drop_eq_nil_of_le (by omega)]
  unfold spec_l4Wires.f
  simp only [Option.bind_some]
  rewrite [ew, ew2, l1All_val _ _ (by omega) _ (by omega)]
  rfl
 | succ d ih =>
  intro i k hi hk
  obtain ⟨k, rfl⟩ : ∃ m, k = m + 1 := ⟨k - 1, by omega⟩
  have hit : i < g.length := by omega
  have e1 : wrap64 ((i : Int) + 1) = ((i + 1 : Nat) : Int) := by rw [wrap64_id _ (by omega) (by omega)]; omega
  have e2 : wrap64 (n + (i : Int)) = n + (i : Int) := wrap64_id _ (by omega) (by omega)
  have e3 : n + (i : Int) + 1 = n + ((i + 1 : Nat) : Int) := by omega
  have hd : g.drop i = g[i] :: g.drop (i + 1) := List.drop_eq_getElem_cons hit
  simp only [spec_GoodCircuit.l0]
  rewrite [if_pos (by omega), if_pos (by omega), if_pos (by omega), rdGate_at hit, e2, spec_gate _ _ (by omega) (by omega) _ (by omega), hd, okGates]
  simp only [Option.bind_some]
  cases hb : okGate (n + (i : Int)) g[i] with
  | false => rewrite [if_neg (by decide)]; rfl
  | true => rewrite [if_pos rfl, e1, ih (i + 1) k (by omega) (by omega), e3]; rfl
theorem implCirc_loop (n : Int) (h0 : 0 ≤ n) (h1 : n ≤ 16) (g : List Gt) (hg : g.length ≤ 300) (o : List Int) (d : Nat) : ∀ (i k : Nat), i + d = g.length → d + 20 < k →
  impl_GoodCircuit.l0 k g (g.length : Int) (i : Int) n g o = some (okGates (n + (i : Int)) (g.drop i) && o.all (below (n + (g.length : Int)))) := by
 induction d with
 | zero =>
  intro i k hi hk
  obtain ⟨k, rfl⟩ : ∃ m, k = m + 1 := ⟨k - 1, by omega⟩
  have ew : wrap64 (n + (g.length : Int)) = n + (g.length : Int) := wrap64_id _ (by omega) (by omega)
  simp only [impl_GoodCircuit.l0]
  rewrite [if_neg (by omega), List.drop_eq_nil_of_le (by omega)]
  unfold impl_Circuit_wires.f
  simp only [Option.bind_some]
  rewrite [ew, wiresBelow_val]
  rfl
 | succ d ih =>
  intro i k hi hk
  obtain ⟨k, rfl⟩ : ∃ m, k = m + 1 := ⟨k - 1, by omega⟩
  have hit : i < g.length := by omega
  have e1 : wrap64 ((i : Int) + 1) = ((i + 1 : Nat) : Int) := by rw [wrap64_id _ (by omega) (by omega)]; omega
  have e2 : wrap64 (n + (i : Int)) = n + (i : Int) := wrap64_id _ (by omega) (by omega)
  have e3 : n + (i : Int) + 1 = n + ((i + 1 : Nat) : Int) := by omega
  have hd : g.drop i = g[i] :: g.drop (i + 1) := List.drop_eq_getElem_cons hit
  simp only [impl_GoodCircuit.l0]
  rewrite [if_pos (by omega), if_pos (by omega), if_pos (by omega), rdGate_at hit, e2, impl_gate _ _ _ (by omega), hd, okGates]
  simp only [Option.bind_some]
  cases hb : okGate (n + (i : Int)) g[i] with
  | false => rewrite [if_neg (by decide)]; rfl
  | true => rewrite [if_pos rfl, e1, ih (i + 1) k (by omega) (by omega), e3]; rfl
theorem okCirc_no (n : Int) (g : List Gt) (o : List Int) (h : ¬ (0 ≤ n ∧ n ≤ 16 ∧ g.length ≤ 300 ∧ o.length ≤ 16)) : okCirc n g o = false := by
 unfold okCirc
 rw [decide_eq_false h]; rfl
theorem specCirc_val (n : Int) (g : List Gt) (o : List Int) (k : Nat) (hk : 400 ≤ k) : spec_GoodCircuit.f k n g o = some (okCirc n g o) := by
 obtain ⟨k, rfl⟩ : ∃ m, k = m + 1 := ⟨k - 1, by omega⟩
 unfold spec_GoodCircuit.f spec_l1In.f
 have hj : ∀ m, spec_GoodCircuit.j0 (m + 1) true n g o = some false := by
  intro m
  simp only [spec_GoodCircuit.j0]
  rfl
 by_cases h0 : n ≥ 0
 ·rewrite [if_pos h0]
  simp only [Option.bind_some]
  by_cases h1 : n ≤ 16
  ·rewrite [decide_eq_true h1, if_pos rfl]
   by_cases h2 : (g.length : Int) > 300
   ·rewrite [if_pos h2, hj, okCirc_no n g o (by omega)]; rfl
   ·rewrite [if_neg h2]
    by_cases h3 : (o.length : Int) > 16
    ·rewrite [decide_eq_true h3, hj, okCirc_no n g o (by omega)]; rfl
    ·rewrite [decide_eq_false h3]
     simp only [spec_GoodCircuit.j0]
     have := specCirc_loop n h0 h1 g (by omega) o (by omega) g.length 0 k (by omega) (by omega)
     rewrite [Int.natCast_zero, Int.add_zero, List.drop_zero] at this
     rewrite [if_neg (by decide), this]
     unfold okCirc
     rewrite [decide_eq_true (show 0 ≤ n ∧ n ≤ 16 ∧ g.length ≤ 300 ∧ o.length ≤ 16 from ⟨h0, h1, by omega, by omega⟩)]
     rfl
  ·rewrite [decide_eq_false h1, if_neg (by decide), hj, okCirc_no n g o (by omega)]; rfl
 ·rewrite [if_neg h0]
  simp only [Option.bind_some]
  rewrite [if_neg (by decide), hj, okCirc_no n g o (by omega)]; rfl
theorem implCirc_val (n : Int) (g : List Gt) (o : List Int) (k : Nat) (hk : 400 ≤ k) : impl_GoodCircuit.f k n g o = some (okCirc n g o) := by
 obtain ⟨k, rfl⟩ : ∃ m, k = m + 1 := ⟨k - 1, by omega⟩
 unfold impl_GoodCircuit.f
 have hj : ∀ m, impl_GoodCircuit.j0 (m + 1) true n g o = some false := by
  intro m
  simp only [impl_GoodCircuit.j0]
  rfl
 by_cases h0 : n < 0
 ·rewrite [if_pos h0, hj, okCirc_no n g o (by omega)]; rfl
 ·rewrite [if_neg h0]
  by_cases h1 : n > 16
  ·rewrite [if_pos h1, hj, okCirc_no n g o (by omega)]; rfl
  ·rewrite [if_neg h1]
   by_cases h2 : (g.length : Int) > 300
   ·rewrite [if_pos h2, hj, okCirc_no n g o (by omega)]; rfl
   ·rewrite [if_neg h2]
    by_cases h3 : (o.length : Int) > 16
    ·rewrite [decide_eq_true h3, hj, okCirc_no n g o (by omega)]; rfl
    ·rewrite [decide_eq_false h3]
     simp only [impl_GoodCircuit.j0]
     have := implCirc_loop n (by omega) (by omega) g (by omega) o g.length 0 k (by omega) (by omega)
     rewrite [Int.natCast_zero, Int.add_zero, List.drop_zero] at this
     rewrite [if_neg (by decide), this]
     unfold okCirc
     rewrite [decide_eq_true (show 0 ≤ n ∧ n ≤ 16 ∧ g.length ≤ 300 ∧ o.length ≤ 16 from ⟨by omega, by omega, by omega, by omega⟩)]
     rfl
theorem szCircuit_val (n : Int) (g : List S67) (o : List Int) (hg : g.length ≤ 9223372036854775807) (ho : o.length ≤ 9223372036854775807) :
  laws_szCircuit.f n g o 1048576 = some (if g.length + o.length ≤ 1048576 then 1048576 - (g.length : Int) - (o.length : Int) else -1) := by
 unfold laws_szCircuit.f
 rewrite [szGate_val g 1048576 (by decide) (by decide) hg]
 simp only [Option.bind_some]
 by_cases h : (1048576 : Int) < (g.length : Int)
 ·rewrite [if_pos h, if_pos (by decide), if_neg (by omega)]; rfl
 ·rewrite [if_neg h, if_neg (by omega), szInt_val o _ (by omega) (by omega) ho]
  simp only [Option.bind_some]
  by_cases h2 : 1048576 - (g.length : Int) < (o.length : Int)
  ·rewrite [if_pos h2, if_pos (by decide), if_neg (by omega)]; rfl
  ·rewrite [if_neg h2, if_neg (by omega), if_pos (by omega)]; rfl
theorem toCircuit_val (k : Nat) (n : Int) (g : List S67) (o : List Int) (h : g.length + o.length ≤ 1048576) (hk : g.length + o.length < k) :
  laws_toCircuit.f k n g o = some (n, g.map convGate, o) := by
 unfold laws_toCircuit.f
 rewrite [toGate_val k g (by omega) (by omega)]
 simp only [Option.bind_some]
 rewrite [toInt_val k o (by omega) (by omega)]
 rfl
theorem eqCircuit_val (k : Nat) (n : Int) (g : List Gt) (o : List Int) (h : g.length + o.length ≤ 1048576) (hk : g.length + o.length < k) :
  laws_eqCircuit.f k n g o n g o = some true := by
 unfold laws_eqCircuit.f
 rewrite [if_pos rfl, eqGate_val k g (by omega) (by omega)]
 simp only [Option.bind_some]
 rewrite [if_pos trivial, eqInt_val k o (by omega) (by omega)]
 rfl
end Go.Proofs.Ytgdmdaalmoioeaa.Pure

namespace Go.Proofs.Ytgdmdaalmoioeaa.Pure
open Go.RowKit Go.Proofs.Ytgdmdaalmoioeaa.X Go.Proofs.YtgdmdaalmoioeaaW.PrintWords Go.Proofs.YtgdmdaalmoioeaaW.PrintLast Go.Proofs.YtgdmdaalmoioeaaW.PrintMore Go.Proofs.Ytgdmdaalmoioeaa.Bits
/-- A list of n elements, numbered on from m. -/
def mkGate (m : Int) : Nat → List S54
 | 0 => []
 | n + 1 => ⟨m, m + 1, m + 2⟩ :: mkGate (m + 3) n
theorem mkGate_len (n : Nat) : ∀ m, (mkGate m n).length = n := by
 induction n with
 | zero => intro m; rfl
 | succ n ih => intro m; simp [mkGate, ih]
theorem mkGate_snoc (n : Nat) : ∀ m, mkGate m (n + 1) = mkGate m n ++ [⟨m + 3 * (n : Int), m + 3 * (n : Int) + 1, m + 3 * (n : Int) + 2⟩] := by
 induction n with
 | zero => intro m; simp [mkGate]
 | succ n ih =>
  intro m
  rw [mkGate, ih (m + 3), mkGate, List.cons_append]
  have : m + 3 + 3 * (n : Int) = m + 3 * ((n + 1 : Nat) : Int) := by omega
  rw [this]
theorem markGate_loop (b : Int) (hb : 0 ≤ b) (hb2 : b ≤ 100000000) (l : List S54) (hl : l.length ≤ 1048576) (d : Nat) : ∀ (i k : Nat), i + d = l.length → d < k →
  laws_markGateS.l0 k (mkGate b i ++ l.drop i) (b + 3 * (i : Int)) (i : Int) = some (b + 3 * (l.length : Int), mkGate b l.length) := by
 induction d with
 | zero =>
  intro i k hi hk
  obtain ⟨k, rfl⟩ : ∃ m, k = m + 1 := ⟨k - 1, by omega⟩
  obtain rfl : i = l.length := by omega
  simp only [laws_markGateS.l0]
  rw [if_neg (by simp [mkGate_len]), List.drop_eq_nil_of_le (by omega), List.append_nil]
 | succ d ih =>
  intro i k hi hk
  obtain ⟨k, rfl⟩ : ∃ m, k = m + 1 := ⟨k - 1, by omega⟩
  have hit : i < l.length := by omega
  have e1 : wrap64 ((i : Int) + 1) = ((i + 1 : Nat) : Int) := by rw [wrap64_id _ (by omega) (by omega)]; omega
  have q0 : wrap64 (b + 3 * (i : Int) + 1) = b + 3 * (i : Int) + 1 := by rw [wrap64_id _ (by omega) (by omega)]
  have q1 : wrap64 (b + 3 * (i : Int) + 1 + 1) = b + 3 * (i : Int) + 2 := by rw [wrap64_id _ (by omega) (by omega)]; omega
  have q2 : wrap64 (b + 3 * (i : Int) + 2 + 1) = b + 3 * ((i + 1 : Nat) : Int) := by rw [wrap64_id _ (by omega) (by omega)]; omega
  have hd : l.drop i = l[i] :: l.drop (i + 1) := List.drop_eq_getElem_cons hit
  have hset : ∀ y z : S54, (mkGate b i ++ y :: l.drop (i + 1)).set i z = mkGate b i ++ z :: l.drop (i + 1) := fun y z => set_mid _ _ _ _ _ (by rw [mkGate_len])
  have hrd : ∀ y : S54, rd_T54 (mkGate b i ++ y :: l.drop (i + 1)) (i : Int) = y := by
   intro y
   rw [rdGate_at (by simp [mkGate_len]), List.getElem_append_right (by rw [mkGate_len]; omega)]
   simp [mkGate_len]
  simp only [laws_markGateS.l0]
  rewrite [if_pos (by simp [mkGate_len]; omega), if_pos (by omega)]
  (try simp only [Option.bind_some])
  rewrite [hd, Int.toNat_natCast, hset, hset, hset, hrd, hrd, hrd, e1, q0, q1, q2]
  have := ih (i + 1) k (by omega) (by omega)
  rw [mkGate_snoc, List.append_assoc] at this
  exact this
theorem markGate_val (k : Nat) (b : Int) (hb : 0 ≤ b) (hb2 : b ≤ 100000000) (l : List S54) (hl : l.length ≤ 1048576) (hk : l.length < k) : laws_markGateS.f k l b = some (b + 3 * (l.length : Int), mkGate b l.length) := by
 have := markGate_loop b hb hb2 l hl l.length 0 k (by omega) hk
 unfold laws_markGateS.f
 simpa [mkGate] using this

/-- A list of n elements, numbered on from m. -/
def mkInt (m : Int) : Nat → List Int
 | 0 => []
 | n + 1 => m :: mkInt (m + 1) n
theorem mkInt_len (n : Nat) : ∀ m, (mkInt m n).length = n := by
 induction n with
 | zero => intro m; rfl
 | succ n ih => intro m; simp [mkInt, ih]
theorem mkInt_snoc (n : Nat) : ∀ m, mkInt m (n + 1) = mkInt m n ++ [m + 1 * (n : Int)] := by
 induction n with
 | zero => intro m; simp [mkInt]
 | succ n ih =>
  intro m
  rw [mkInt, ih (m + 1), mkInt, List.cons_append]
  have : m + 1 + 1 * (n : Int) = m + 1 * ((n + 1 : Nat) : Int) := by omega
  rw [this]
theorem mkInt_at (m : Int) (n i : Nat) (h : i < n) : rd (mkInt m n) (i : Int) = m + 1 * (i : Int) := by
 induction n generalizing m i with
 | zero => omega
 | succ n ih =>
  cases i with
  | zero => simp [rd, mkInt]
  | succ i =>
   have := ih (m + 1) i (by omega)
   unfold rd at this ⊢
   rw [Int.toNat_natCast] at this ⊢
   rw [mkInt, List.getD_cons_succ, this]
   have e : m + 1 + 1 * (i : Int) = m + 1 * ((i + 1 : Nat) : Int) := by omega
   rw [e]
theorem markInt_loop (b : Int) (hb : 0 ≤ b) (hb2 : b ≤ 100000000) (l : List Int) (hl : l.length ≤ 1048576) (d : Nat) : ∀ (i k : Nat), i + d = l.length → d < k →
  laws_markIntS.l0 k (mkInt b i ++ l.drop i) (b + 1 * (i : Int)) (i : Int) = some (b + 1 * (l.length : Int), mkInt b l.length) := by
 induction d with
 | zero =>
  intro i k hi hk
  obtain ⟨k, rfl⟩ : ∃ m, k = m + 1 := ⟨k - 1, by omega⟩
  obtain rfl : i = l.length := by omega
  simp only [laws_markIntS.l0]
  rw [if_neg (by simp [mkInt_len]), List.drop_eq_nil_of_le (by omega), List.append_nil]
 | succ d ih =>
  intro i k hi hk
  obtain ⟨k, rfl⟩ : ∃ m, k = m + 1 := ⟨k - 1, by omega⟩
  have hit : i < l.length := by omega
  have e1 : wrap64 ((i : Int) + 1) = ((i + 1 : Nat) : Int) := by rw [wrap64_id _ (by omega) (by omega)]; omega
  have q0 : wrap64 (b + 1 * (i : Int) + 1) = b + 1 * ((i + 1 : Nat) : Int) := by rw [wrap64_id _ (by omega) (by omega)]; omega
  have hd : l.drop i = l[i] :: l.drop (i + 1) := List.drop_eq_getElem_cons hit
  have hset : ∀ y z : Int, (mkInt b i ++ y :: l.drop (i + 1)).set i z = mkInt b i ++ z :: l.drop (i + 1) := fun y z => set_mid _ _ _ _ _ (by rw [mkInt_len])
  simp only [laws_markIntS.l0]
  rewrite [if_pos (by simp [mkInt_len]; omega), if_pos (by omega)]
  (try simp only [Option.bind_some])
  rewrite [hd, Int.toNat_natCast, hset, e1, q0]
  have := ih (i + 1) k (by omega) (by omega)
  rw [mkInt_snoc, List.append_assoc] at this
  exact this
theorem markInt_val (k : Nat) (b : Int) (hb : 0 ≤ b) (hb2 : b ≤ 100000000) (l : List Int) (hl : l.length ≤ 1048576) (hk : l.length < k) : laws_markIntS.f k l b = some (b + 1 * (l.length : Int), mkInt b l.length) := by
 have := markInt_loop b hb hb2 l hl l.length 0 k (by omega) hk
 unfold laws_markIntS.f
 simpa [mkInt] using this

end Go.Proofs.Ytgdmdaalmoioeaa.Pure

namespace Go.Proofs.Ytgdmdaalmoioeaa.Pure
open Go.RowKit Go.Proofs.Ytgdmdaalmoioeaa.X Go.Proofs.YtgdmdaalmoioeaaW.PrintWords Go.Proofs.YtgdmdaalmoioeaaW.PrintLast Go.Proofs.YtgdmdaalmoioeaaW.PrintMore Go.Proofs.Ytgdmdaalmoioeaa.Bits
theorem rdBool_at {t : List Bool} {i : Nat} (h : i < t.length) : rdOf false t (i : Int) = t[i] := by
 unfold rdOf
 rw [Int.toNat_natCast, List.getD_eq_getElem?_getD, List.getElem?_eq_getElem h]; rfl
theorem toBool_loop (l : List Bool) (hl : l.length ≤ 1048576) (d : Nat) : ∀ (i : Nat) (k : Nat), i + d = l.length → d < k →
  laws_toBoolS.l0 k l ((l.take i) ++ List.replicate d false) (i : Int) = some (l) := by
 induction d with
 | zero =>
  intro i k hi hk
  obtain ⟨k, rfl⟩ : ∃ m, k = m + 1 := ⟨k - 1, by omega⟩
  simp only [laws_toBoolS.l0]
  rw [if_neg (by omega), List.take_of_length_le (by omega)]
  simp
 | succ d ih =>
  intro i k hi hk
  obtain ⟨k, rfl⟩ : ∃ m, k = m + 1 := ⟨k - 1, by omega⟩
  have hit : i < l.length := by omega
  have e1 : wrap64 ((i : Int) + 1) = ((i + 1 : Nat) : Int) := by rw [wrap64_id _ (by omega) (by omega)]; omega
  simp only [laws_toBoolS.l0]
  rewrite [if_pos (by omega), if_pos (by omega)]
  rewrite [if_pos (by simp; omega), rdBool_at hit, e1, Int.toNat_natCast, List.replicate_succ, set_mid _ _ _ _ _ (by simp; omega)]
  have h2 : (l.take i) ++ l[i] :: List.replicate d false = (l.take (i + 1)) ++ List.replicate d false := by
   rw [List.take_add_one, List.getElem?_eq_getElem hit, Option.toList_some, List.append_assoc]
   rfl
  rewrite [h2]
  exact ih (i + 1) k (by omega) (by omega)
theorem toBool_val (k : Nat) (l : List Bool) (hl : l.length ≤ 1048576) (hk : l.length < k) : laws_toBoolS.f k l = some (l) := by
 unfold laws_toBoolS.f
 rw [if_pos (by omega), Int.toNat_natCast, if_pos (by omega)]
 have := toBool_loop l hl l.length 0 k (by omega) hk
 simpa using this
theorem eqBool_loop (l : List Bool) (hl : l.length ≤ 1048576) (d : Nat) : ∀ (i : Nat) (k : Nat), i + d = l.length → d < k → laws_eqBoolS.l0 k l l (i : Int) = some true := by
 induction d with
 | zero =>
  intro i k hi hk
  obtain ⟨k, rfl⟩ : ∃ m, k = m + 1 := ⟨k - 1, by omega⟩
  simp only [laws_eqBoolS.l0]
  rw [if_neg (by omega)]
 | succ d ih =>
  intro i k hi hk
  obtain ⟨k, rfl⟩ : ∃ m, k = m + 1 := ⟨k - 1, by omega⟩
  have e1 : wrap64 ((i : Int) + 1) = ((i + 1 : Nat) : Int) := by rw [wrap64_id _ (by omega) (by omega)]; omega
  simp only [laws_eqBoolS.l0]
  rewrite [if_pos (by omega), if_pos (by omega), if_pos (by omega)]
  rewrite [if_neg (by simp)]
  rewrite [e1]
  exact ih (i + 1) k (by omega) (by omega)
theorem eqBool_val (k : Nat) (l : List Bool) (hl : l.length ≤ 1048576) (hk : l.length < k) : laws_eqBoolS.f k l l = some true := by
 unfold laws_eqBoolS.f
 rw [if_pos rfl]
 exact eqBool_loop l hl l.length 0 k (by omega) hk

end Go.Proofs.Ytgdmdaalmoioeaa.Pure

namespace Go.Proofs.Ytgdmdaalmoioeaa.Pure
open Go.RowKit Go.Proofs.Ytgdmdaalmoioeaa.X Go.Proofs.YtgdmdaalmoioeaaW.PrintWords Go.Proofs.YtgdmdaalmoioeaaW.PrintLast Go.Proofs.YtgdmdaalmoioeaaW.PrintMore Go.Proofs.Ytgdmdaalmoioeaa.Bits
/-- A list of n elements, numbered on from m. -/
def mkBool (m : Int) : Nat → List Bool
 | 0 => []
 | n + 1 => (Int.tmod (m) 3 == 0) :: mkBool (m + 1) n
theorem mkBool_len (n : Nat) : ∀ m, (mkBool m n).length = n := by
 induction n with
 | zero => intro m; rfl
 | succ n ih => intro m; simp [mkBool, ih]
theorem mkBool_snoc (n : Nat) : ∀ m, mkBool m (n + 1) = mkBool m n ++ [(Int.tmod (m + 1 * (n : Int)) 3 == 0)] := by
 induction n with
 | zero => intro m; simp [mkBool]
 | succ n ih =>
  intro m
  rw [mkBool, ih (m + 1), mkBool, List.cons_append]
  have : m + 1 + 1 * (n : Int) = m + 1 * ((n + 1 : Nat) : Int) := by omega
  rw [this]
theorem markBool_loop (b : Int) (hb : 0 ≤ b) (hb2 : b ≤ 100000000) (l : List Bool) (hl : l.length ≤ 1048576) (d : Nat) : ∀ (i k : Nat), i + d = l.length → d < k →
  laws_markBoolS.l0 k (mkBool b i ++ l.drop i) (b + 1 * (i : Int)) (i : Int) = some (b + 1 * (l.length : Int), mkBool b l.length) := by
 induction d with
 | zero =>
  intro i k hi hk
  obtain ⟨k, rfl⟩ : ∃ m, k = m + 1 := ⟨k - 1, by omega⟩
  obtain rfl : i = l.length := by omega
  simp only [laws_markBoolS.l0]
  rw [if_neg (by simp [mkBool_len]), List.drop_eq_nil_of_le (by omega), List.append_nil]
 | succ d ih =>
  intro i k hi hk
  obtain ⟨k, rfl⟩ : ∃ m, k = m + 1 := ⟨k - 1, by omega⟩
  have hit : i < l.length := by omega
  have e1 : wrap64 ((i : Int) + 1) = ((i + 1 : Nat) : Int) := by rw [wrap64_id _ (by omega) (by omega)]; omega
  have q0 : wrap64 (b + 1 * (i : Int) + 1) = b + 1 * ((i + 1 : Nat) : Int) := by rw [wrap64_id _ (by omega) (by omega)]; omega
  have hd : l.drop i = l[i] :: l.drop (i + 1) := List.drop_eq_getElem_cons hit
  have hset : ∀ y z : Bool, (mkBool b i ++ y :: l.drop (i + 1)).set i z = mkBool b i ++ z :: l.drop (i + 1) := fun y z => set_mid _ _ _ _ _ (by rw [mkBool_len])
  simp only [laws_markBoolS.l0]
  rewrite [if_pos (by simp [mkBool_len]; omega), if_pos (by omega)]
  (try simp only [Option.bind_some])
  rewrite [hd, Int.toNat_natCast, hset, e1, q0]
  have := ih (i + 1) k (by omega) (by omega)
  rw [mkBool_snoc, List.append_assoc] at this
  exact this
theorem markBool_val (k : Nat) (b : Int) (hb : 0 ≤ b) (hb2 : b ≤ 100000000) (l : List Bool) (hl : l.length ≤ 1048576) (hk : l.length < k) : laws_markBoolS.f k l b = some (b + 1 * (l.length : Int), mkBool b l.length) := by
 have := markBool_loop b hb hb2 l hl l.length 0 k (by omega) hk
 unfold laws_markBoolS.f
 simpa [mkBool] using this
end Go.Proofs.Ytgdmdaalmoioeaa.Pure

namespace Go.Proofs.Ytgdmdaalmoioeaa.Pure
open Go.RowKit Go.Proofs.Ytgdmdaalmoioeaa.X Go.Proofs.YtgdmdaalmoioeaaW.PrintWords Go.Proofs.YtgdmdaalmoioeaaW.PrintLast Go.Proofs.YtgdmdaalmoioeaaW.PrintMore Go.Proofs.Ytgdmdaalmoioeaa.Bits
theorem rdL_at {α : Type} {t : List (List α)} {i : Nat} (h : i < t.length) : t.getD ((i : Int)).toNat [] = t[i] := by
 rw [Int.toNat_natCast, List.getD_eq_getElem?_getD, List.getElem?_eq_getElem h]; rfl
theorem rdIS_at {t : List (List Int)} {i : Nat} (h : i < t.length) : rd_L3 t (i : Int) = t[i] := rdL_at h
/-- All elements of all rows. -/
def total (l : List (List Int)) : Nat := l.flatten.length
theorem total_cons (a : List Int) (l : List (List Int)) : total (a :: l) = a.length + total l := by simp [total]
theorem total_mem {a : List Int} {l : List (List Int)} (h : a ∈ l) : a.length ≤ total l := by
 induction l with
 | nil => cases h
 | cons b t ih =>
  rw [total_cons]
  rcases List.mem_cons.1 h with rfl | h
  ·omega
  ·have := ih h; omega
/-- Whether a list of clauses is measured as small. -/
def small (l : List (List Int)) : Prop := l.length + total l ≤ 1048576
instance (l : List (List Int)) : Decidable (small l) := by unfold small; exact inferInstance
theorem eqSS_loop (l : List (List Int)) (hl : l.length ≤ 1048576) (ht : total l ≤ 1048576) (d : Nat) : ∀ (i k : Nat), i + d = l.length → d + total l < k → laws_eqIntSS.l0 k l l (i : Int) = some true := by
 induction d with
 | zero =>
  intro i k hi hk
  obtain ⟨k, rfl⟩ : ∃ m, k = m + 1 := ⟨k - 1, by omega⟩
  simp only [laws_eqIntSS.l0]
  rewrite [if_neg (by omega)]; rfl
 | succ d ih =>
  intro i k hi hk
  obtain ⟨k, rfl⟩ : ∃ m, k = m + 1 := ⟨k - 1, by omega⟩
  have hit : i < l.length := by omega
  have e1 : wrap64 ((i : Int) + 1) = ((i + 1 : Nat) : Int) := by rw [wrap64_id _ (by omega) (by omega)]; omega
  have hm := total_mem (List.getElem_mem hit)
  simp only [laws_eqIntSS.l0]
  rewrite [if_pos (by omega), if_pos (by omega), if_pos (by omega), rdIS_at hit, eqInt_val k _ (by omega) (by omega)]
  simp only [Option.bind_some]
  rewrite [if_pos trivial, e1]
  exact ih (i + 1) k (by omega) (by omega)
theorem eqCnf_val (k : Nat) (n : Int) (l : List (List Int)) (h : small l) (hk : l.length + total l < k) : laws_eqCnf.f k n l n l = some true := by
 have hs' : l.length + total l ≤ 1048576 := h
 unfold laws_eqCnf.f laws_eqIntSS.f
 rewrite [if_pos rfl, if_pos rfl]
 have := eqSS_loop l (by omega) (by omega) l.length 0 k (by omega) (by omega)
 rw [Int.natCast_zero] at this
 rewrite [this]
 rfl
/-- A literal of so many names. -/
def litB (n x : Int) : Bool := decide (x ≠ 0 ∧ -n ≤ x ∧ x ≤ n)
def clauseB (n : Int) (l : List Int) : Bool := decide (l.length ≤ 8) && l.all (litB n)
/-- A good set of clauses. -/
def cnfB (n : Int) (l : List (List Int)) : Bool := decide (0 ≤ n ∧ n ≤ 400 ∧ l.length ≤ 1400) && l.all (clauseB n)
theorem isLiteral_val (x n : Int) (h0 : 0 ≤ n) (h1 : n ≤ 400) : impl_isLiteral.f x n = some (litB n x) := by
 unfold impl_isLiteral.f litB
 rewrite [wrap64_id _ (by omega) (by omega)]
 by_cases h : x = 0
 ·rewrite [if_pos h, decide_eq_false (by omega)]; rfl
 ·rewrite [if_neg h]
  by_cases h2 : x ≥ -n
  ·rewrite [if_pos h2]; congr 1; exact decide_eq_decide.mpr (by omega)
  ·rewrite [if_neg h2, decide_eq_false (by omega)]; rfl
theorem clauseAny_val (n : Int) (h0 : 0 ≤ n) (h1 : n ≤ 400) (l : List Int) : impl_isClause_any.f l n = some (!(l.all (litB n))) := by
 unfold impl_isClause_any.f
 induction l with
 | nil => rfl
 | cons x t ih =>
  have hp : impl_isClause_any.p n x = some (!(litB n x)) := by unfold impl_isClause_any.p; rw [isLiteral_val x n h0 h1]; rfl
  unfold impl_isClause_any.any
  rewrite [hp]
  simp only [Option.bind_some]
  rewrite [List.all_cons]
  cases hb : litB n x with
  | false => rfl
  | true => rewrite [if_neg (by decide), ih]; rfl
theorem isClause_val (n : Int) (h0 : 0 ≤ n) (h1 : n ≤ 400) (l : List Int) : impl_isClause.f l n = some (clauseB n l) := by
 unfold impl_isClause.f clauseB
 by_cases h : (l.length : Int) ≤ 8
 ·rewrite [if_pos h, clauseAny_val n h0 h1, decide_eq_true (show l.length ≤ 8 by omega)]
  simp only [Option.bind_some, Bool.not_not, Bool.true_and]
 ·rewrite [if_neg h, decide_eq_false (show ¬ l.length ≤ 8 by omega)]; rfl
theorem implCnf_val (n : Int) (l : List (List Int)) : impl_GoodCnf.f n l = some (cnfB n l) := by
 unfold impl_GoodCnf.f cnfB
 by_cases h0 : n < 0
 ·rewrite [if_pos h0, decide_eq_false (by omega)]; rfl
 ·rewrite [if_neg h0]
  by_cases h1 : n > 400
  ·rewrite [if_pos h1, decide_eq_false (by omega)]; rfl
  ·rewrite [if_neg h1]
   by_cases h2 : (l.length : Int) > 1400
   ·rewrite [if_pos h2, decide_eq_false (by omega)]; rfl
   ·rewrite [if_neg h2, decide_eq_true (by omega)]
    have hany : impl_GoodCnf_any.f l n = some (!(l.all (clauseB n))) := by
     unfold impl_GoodCnf_any.f
     clear h2
     induction l with
     | nil => rfl
     | cons x t ih =>
      have hp : impl_GoodCnf_any.p n x = some (!(clauseB n x)) := by unfold impl_GoodCnf_any.p; rw [isClause_val n (by omega) (by omega) x]; rfl
      unfold impl_GoodCnf_any.any
      rewrite [hp]
      simp only [Option.bind_some]
      rewrite [List.all_cons]
      cases hb : clauseB n x with
      | false => rfl
      | true => rewrite [if_neg (by decide), ih]; rfl
    rewrite [hany]
    simp only [Option.bind_some, Bool.not_not, Bool.true_and]
theorem l1In_lit (x n : Int) (h0 : 0 ≤ n) (h1 : n ≤ 400) : spec_l1In.f x (wrap64 (-n)) n = some (decide (-n ≤ x ∧ x ≤ n)) := by
 unfold spec_l1In.f
 rewrite [wrap64_id _ (by omega) (by omega)]
 by_cases h : x ≥ -n
 ·rewrite [if_pos h]; congr 1; exact decide_eq_decide.mpr (by omega)
 ·rewrite [if_neg h, decide_eq_false (by omega)]; rfl
theorem specClause_loop (n : Int) (h0 : 0 ≤ n) (h1 : n ≤ 400) (l : List Int) (hl : l.length ≤ 8) (d : Nat) : ∀ (i k : Nat), i + d = l.length → d < k → spec_l6Clause.l0 k n l (l.length : Int) (i : Int) = some ((l.drop i).all (litB n)) := by
 induction d with
 | zero =>
  intro i k hi hk
  obtain ⟨k, rfl⟩ : ∃ m, k = m + 1 := ⟨k - 1, by omega⟩
  simp only [spec_l6Clause.l0]
  rewrite [if_neg (by omega), List.drop_eq_nil_of_le (by omega)]; rfl
 | succ d ih =>
  intro i k hi hk
  obtain ⟨k, rfl⟩ : ∃ m, k = m + 1 := ⟨k - 1, by omega⟩
  have hit : i < l.length := by omega
  have e1 : wrap64 ((i : Int) + 1) = ((i + 1 : Nat) : Int) := by rw [wrap64_id _ (by omega) (by omega)]; omega
  have hd : l.drop i = l[i] :: l.drop (i + 1) := List.drop_eq_getElem_cons hit
  simp only [spec_l6Clause.l0]
  rewrite [if_pos (by omega), if_pos (by omega), if_pos (by omega), rdInt_at hit, hd, List.all_cons]
  by_cases h2 : l[i] = 0
  ·have e : litB n l[i] = false := decide_eq_false (by omega)
   rewrite [if_pos h2, e]; rfl
  ·rewrite [if_neg h2, l1In_lit _ n h0 h1]
   simp only [Option.bind_some, decide_eq_true_eq]
   by_cases h3 : -n ≤ l[i] ∧ l[i] ≤ n
   ·have e : litB n l[i] = true := decide_eq_true ⟨h2, h3.1, h3.2⟩
    rewrite [if_pos h3, e1, ih (i + 1) k (by omega) (by omega), e]; rfl
   ·have e : litB n l[i] = false := decide_eq_false (by omega)
    rewrite [if_neg h3, e]; rfl
theorem specClause_val (n : Int) (h0 : 0 ≤ n) (h1 : n ≤ 400) (l : List Int) (k : Nat) (hk : 10 < k) : spec_l6Clause.f k n l = some (clauseB n l) := by
 unfold spec_l6Clause.f clauseB
 by_cases h : (l.length : Int) > 8
 ·rewrite [if_pos h, decide_eq_false (show ¬ l.length ≤ 8 by omega)]; rfl
 ·have := specClause_loop n h0 h1 l (by omega) l.length 0 k (by omega) (by omega)
  rw [Int.natCast_zero, List.drop_zero] at this
  rewrite [if_neg h, decide_eq_true (show l.length ≤ 8 by omega), this]; rfl
theorem specCnf_loop (n : Int) (h0 : 0 ≤ n) (h1 : n ≤ 400) (l : List (List Int)) (hl : l.length ≤ 1400) (d : Nat) : ∀ (i k : Nat), i + d = l.length → d + 20 < k → spec_GoodCnf.l0 k l (l.length : Int) (i : Int) n l = some ((l.drop i).all (clauseB n)) := by
 induction d with
 | zero =>
  intro i k hi hk
  obtain ⟨k, rfl⟩ : ∃ m, k = m + 1 := ⟨k - 1, by omega⟩
  simp only [spec_GoodCnf.l0]
  rewrite [if_neg (by omega), List.drop_eq_nil_of_le (by omega)]; rfl
 | succ d ih =>
  intro i k hi hk
  obtain ⟨k, rfl⟩ : ∃ m, k = m + 1 := ⟨k - 1, by omega⟩
  have hit : i < l.length := by omega
  have e1 : wrap64 ((i : Int) + 1) = ((i + 1 : Nat) : Int) := by rw [wrap64_id _ (by omega) (by omega)]; omega
  have hd : l.drop i = l[i] :: l.drop (i + 1) := List.drop_eq_getElem_cons hit
  simp only [spec_GoodCnf.l0]
  rewrite [if_pos (by omega), if_pos (by omega), if_pos (by omega), rdIS_at hit, specClause_val n h0 h1 _ k (by omega), hd, List.all_cons]
  simp only [Option.bind_some]
  cases hb : clauseB n l[i] with
  | false => rewrite [if_neg (by decide)]; rfl
  | true => rewrite [if_pos rfl, e1, ih (i + 1) k (by omega) (by omega)]; rfl
theorem specCnf_val (n : Int) (l : List (List Int)) (k : Nat) (hk : 1500 < k) : spec_GoodCnf.f k n l = some (cnfB n l) := by
 obtain ⟨k, rfl⟩ : ∃ m, k = m + 1 := ⟨k - 1, by omega⟩
 unfold spec_GoodCnf.f spec_l1In.f cnfB
 by_cases h0 : n ≥ 0
 ·rewrite [if_pos h0]
  simp only [Option.bind_some, decide_eq_true_eq]
  by_cases h1 : n ≤ 400
  ·rewrite [if_pos h1]
   simp only [spec_GoodCnf.j0, decide_eq_true_eq]
   by_cases h2 : (l.length : Int) > 1400
   ·rewrite [if_pos h2, decide_eq_false (show ¬ (0 ≤ n ∧ n ≤ 400 ∧ l.length ≤ 1400) by omega)]; rfl
   ·have := specCnf_loop n h0 h1 l (by omega) l.length 0 k (by omega) (by omega)
    rw [Int.natCast_zero, List.drop_zero] at this
    rewrite [if_neg h2, decide_eq_true (show 0 ≤ n ∧ n ≤ 400 ∧ l.length ≤ 1400 by omega), this]; rfl
  ·rewrite [if_neg h1, decide_eq_false (show ¬ (0 ≤ n ∧ n ≤ 400 ∧ l.length ≤ 1400) by omega)]
   simp only [spec_GoodCnf.j0]; rfl
 ·rewrite [if_neg h0, decide_eq_false (show ¬ (0 ≤ n ∧ n ≤ 400 ∧ l.length ≤ 1400) by omega)]
  simp only [Option.bind_some, spec_GoodCnf.j0]; rfl
end Go.Proofs.Ytgdmdaalmoioeaa.Pure

namespace Go.Proofs.Ytgdmdaalmoioeaa.Pure
open Go.RowKit Go.Proofs.Ytgdmdaalmoioeaa.X Go.Proofs.YtgdmdaalmoioeaaW.PrintWords Go.Proofs.YtgdmdaalmoioeaaW.PrintLast Go.Proofs.YtgdmdaalmoioeaaW.PrintMore Go.Proofs.Ytgdmdaalmoioeaa.Bits
/-- The clauses of a gate. -/
def clG (g : Gt) (w : Int) : List (List Int) := (impl_clausesOf.f g.f0 g.f1 g.f2 w).getD []
theorem clG_is (g : Gt) (w : Int) : impl_clausesOf.f g.f0 g.f1 g.f2 w = some (clG g w) ∧ (clG g w).length ≤ 4 := by
 unfold clG impl_clausesOf.f
 split
 ·split
  ·exact ⟨rfl, by simp⟩
  ·exact ⟨rfl, by simp⟩
 ·split
  ·exact ⟨rfl, by simp⟩
  ·split
   ·exact ⟨rfl, by simp⟩
   ·split
    ·exact ⟨rfl, by simp⟩
    ·exact ⟨rfl, by simp⟩
theorem rdGt_at {t : List Gt} {i : Nat} (h : i < t.length) : rd_T54 t (i : Int) = t[i] := rdGate_at h
/-- The reference's clauses of a gate, where it may stand. -/
theorem spec_step (k : Nat) (want : List Bool) (g : List Gt) (o : List Int) (n W : Int) (acc : List (List Int)) (i : Nat) (hi : i < g.length) (hn : 0 ≤ n) (hn2 : n ≤ 16) (hg : g.length ≤ 300) (hok : okGate (n + (i : Int)) g[i] = true) (ha : acc.length ≤ 100000) :
  spec_l6For.l0 (k + 1) want g (g.length : Int) (i : Int) n g o W acc = spec_l6For.l0 k want g (g.length : Int) ((i + 1 : Nat) : Int) n g o W (acc ++ clG g[i] (wrap64 ((wrap64 (n + (i : Int))) + 1))) := by
 have e1 : wrap64 ((i : Int) + 1) = ((i + 1 : Nat) : Int) := by rw [wrap64_id _ (by omega) (by omega)]; omega
 have ew : wrap64 ((wrap64 (n + (i : Int))) + 1) = n + i + 1 := by rw [wrap64_id (n + i) (by omega) (by omega), wrap64_id _ (by omega) (by omega)]
 rw [spec_l6For.l0, if_pos (by omega), if_pos (by omega), if_pos (by omega), rdGt_at hi, e1]
 obtain ⟨q, hq⟩ : ∃ q, g[i] = q := ⟨_, rfl⟩
 rw [hq] at hok ⊢
 unfold okGate at hok
 unfold clG impl_clausesOf.f
 by_cases h1 : q.f0 = 1
 ·rw [if_pos h1] at hok
  rw [if_pos h1, if_pos (by omega), if_pos h1]
  have hb := (Bool.and_eq_true _ _).mp hok
  have hb1 := (Bool.and_eq_true _ _).mp hb.1
  have b0 := of_decide_eq_true hb1.1
  have b1 := of_decide_eq_true hb1.2
  by_cases h2 : q.f1 = 1
  ·rw [if_pos h2, h2, ew, show wrap64 (2 * 1) = 2 from wrap64_id 2 (by decide) (by decide), show wrap64 (2 - 1) = 1 from wrap64_id 1 (by decide) (by decide), wrap64_id ((n + i + 1) * 1) (by omega) (by omega), Int.mul_one]
   rfl
  ·have h0 : q.f1 = 0 := by omega
   rw [if_neg h2, h0, ew, show wrap64 (2 * 0) = 0 from wrap64_id 0 (by decide) (by decide), show wrap64 (0 - 1) = -1 by rw [wrap64_id _ (by omega) (by omega)]; rfl, show (n + (i : Int) + 1) * -1 = -(n + i + 1) by omega]
   rfl
 ·rw [if_neg h1] at hok
  rw [if_neg h1, if_neg h1]
  by_cases h2 : q.f0 = 2
  ·rw [if_pos h2, if_pos h2, Option.bind_some, if_pos (by simp only [List.length_cons, List.length_nil]; omega)]
   rfl
  ·rw [if_neg h2] at hok
   rw [if_neg h2, if_neg h2]
   by_cases h3 : q.f0 = 3
   ·rw [if_pos h3, if_pos h3, Option.bind_some, if_pos (by simp only [List.length_cons, List.length_nil]; omega)]
    rfl
   ·rw [if_neg h3, if_neg h3]
    by_cases h4 : q.f0 = 4
    ·rw [if_pos h4, if_pos h4, Option.bind_some, if_pos (by simp only [List.length_cons, List.length_nil]; omega)]
     rfl
    ·rw [if_neg h4, if_neg h4]
     by_cases h5 : q.f0 = 5
     ·rw [if_pos h5, Option.bind_some, if_pos (by simp only [List.length_cons, List.length_nil]; omega)]
      rfl
     ·rw [if_neg (by omega)] at hok
      cases hok
theorem gates_loop (want : List Bool) (g : List Gt) (o : List Int) (n W : Int) (hn : 0 ≤ n) (hn2 : n ≤ 16) (hg : g.length ≤ 300) (d : Nat) : ∀ (i : Nat) (acc : List (List Int)), i + d = g.length → okGates (n + (i : Int)) (g.drop i) = true → acc.length ≤ 4 * i →
  ∃ acc' : List (List Int), acc'.length ≤ 4 * g.length ∧ ∀ q, spec_l6For.l0 (q + d + 1) want g (g.length : Int) (i : Int) n g o W acc = spec_l6For.l1 q want o (o.length : Int) 0 W acc' ∧ impl_CnfFor.l0 (q + d + 1) want g (g.length : Int) (i : Int) n g o W acc = impl_CnfFor.l1 q want o (o.length : Int) 0 W acc' := by
 induction d with
 | zero =>
  intro i acc hi _ ha
  refine ⟨acc, by omega, fun q => ?_⟩
  rw [spec_l6For.l0, impl_CnfFor.l0, if_neg (by omega), if_neg (by omega)]
  exact ⟨rfl, rfl⟩
 | succ d ih =>
  intro i acc hi hok ha
  have hit : i < g.length := by omega
  have e1 : wrap64 ((i : Int) + 1) = ((i + 1 : Nat) : Int) := by rw [wrap64_id _ (by omega) (by omega)]; omega
  rw [List.drop_eq_getElem_cons hit, okGates, Bool.and_eq_true] at hok
  obtain ⟨c1, c2⟩ := clG_is g[i] (wrap64 ((wrap64 (n + (i : Int))) + 1))
  obtain ⟨acc', h1, h2⟩ := ih (i + 1) (acc ++ clG g[i] (wrap64 ((wrap64 (n + (i : Int))) + 1))) (by omega) (by rw [show n + ((i + 1 : Nat) : Int) = n + (i : Int) + 1 by omega]; exact hok.2) (by rw [List.length_append]; omega)
  refine ⟨acc', h1, fun q => ?_⟩
  rw [show q + (d + 1) + 1 = (q + d + 1) + 1 by omega, spec_step (q + d + 1) want g o n W acc i hit hn hn2 hg hok.1 (by omega), impl_CnfFor.l0, if_pos (by omega), if_pos (by omega), if_pos (by omega), rdGt_at hit, c1, Option.bind_some, if_pos (by omega), e1]
  exact h2 q
theorem outs_loop (want : List Bool) (o : List Int) (W : Int) (hw : want.length = o.length) (ho : o.length ≤ 16) (d : Nat) : ∀ (i : Nat) (acc : List (List Int)), i + d = o.length → acc.length + d ≤ 2000 →
  ∃ acc' : List (List Int), ∀ q, spec_l6For.l1 (q + d + 1) want o (o.length : Int) (i : Int) W acc = some (W, acc') ∧ impl_CnfFor.l1 (q + d + 1) want o (o.length : Int) (i : Int) W acc = (impl_GoodCnf.f W acc').bind fun t => if t = true then some (W, acc', true) else some (0, ([] : List (List Int)), false) := by
 induction d with
 | zero =>
  intro i acc hi ha
  refine ⟨acc, fun q => ?_⟩
  rw [spec_l6For.l1, impl_CnfFor.l1, if_neg (by omega), if_neg (by omega)]
  exact ⟨rfl, rfl⟩
 | succ d ih =>
  intro i acc hi ha
  have hit : i < o.length := by omega
  have e1 : wrap64 ((i : Int) + 1) = ((i + 1 : Nat) : Int) := by rw [wrap64_id _ (by omega) (by omega)]; omega
  by_cases hb : rdOf false want (i : Int) = true
  ·obtain ⟨acc', h2⟩ := ih (i + 1) (acc ++ [[wrap64 ((rd o (i : Int)) + 1)]]) (by omega) (by rw [List.length_append, List.length_singleton]; omega)
   refine ⟨acc', fun q => ?_⟩
   constructor
   ·rw [show q + (d + 1) + 1 = (q + d + 1) + 1 by omega, spec_l6For.l1, if_pos (by omega), if_pos (by omega), if_pos (by omega), if_pos (by omega), if_pos hb, if_pos (by omega), e1]
    exact (h2 q).1
   ·rw [show q + (d + 1) + 1 = (q + d + 1) + 1 by omega, impl_CnfFor.l1, if_pos (by omega), if_pos (by omega), if_pos (by omega), if_pos (by omega), if_pos hb, if_pos (by omega), e1]
    exact (h2 q).2
  ·obtain ⟨acc', h2⟩ := ih (i + 1) (acc ++ [[wrap64 ((wrap64 (-(rd o (i : Int)))) - 1)]]) (by omega) (by rw [List.length_append, List.length_singleton]; omega)
   refine ⟨acc', fun q => ?_⟩
   constructor
   ·rw [show q + (d + 1) + 1 = (q + d + 1) + 1 by omega, spec_l6For.l1, if_pos (by omega), if_pos (by omega), if_pos (by omega), if_pos (by omega), if_neg hb, if_pos (by omega), e1]
    exact (h2 q).1
   ·rw [show q + (d + 1) + 1 = (q + d + 1) + 1 by omega, impl_CnfFor.l1, if_pos (by omega), if_pos (by omega), if_pos (by omega), if_pos (by omega), if_neg hb, if_pos (by omega), e1]
    exact (h2 q).2
theorem total_le (l : List (List Int)) (b : Nat) (h : ∀ c ∈ l, c.length ≤ b) : total l ≤ b * l.length := by
 induction l with
 | nil => simp [total]
 | cons x t ih =>
  rw [total_cons, List.length_cons, Nat.mul_succ]
  have := ih fun c hc => h c (List.mem_cons_of_mem _ hc)
  have := h x List.mem_cons_self
  omega
theorem both_for (n : Int) (g : List Gt) (o : List Int) (want : List Bool) : ∃ R : Int × List (List Int) × Bool, R.2.1.length ≤ 1400 ∧ total R.2.1 ≤ 11200 ∧ ∀ k, 3000 ≤ k → impl_CnfFor.f k n g o want = some R ∧ spec_CnfFor.f k n g o want = some R := by
 have hji : ∀ k, impl_CnfFor.j0 (k + 1) want true n g o = some (0, [], false) := fun k => by rw [impl_CnfFor.j0, if_pos rfl]
 have hjs : ∀ k, spec_CnfFor.j0 (k + 1) want true n g o = some (0, [], false) := fun k => by rw [spec_CnfFor.j0, if_pos rfl]
 by_cases h : okCirc n g o = true
 case neg =>
  refine ⟨(0, [], false), by simp, by simp [total], fun k hk => ?_⟩
  obtain ⟨k, rfl⟩ : ∃ m, k = m + 1 := ⟨k - 1, by omega⟩
  unfold impl_CnfFor.f spec_CnfFor.f
  rw [implCirc_val _ _ _ _ (by omega), specCirc_val _ _ _ _ (by omega), Option.bind_some, Option.bind_some, if_neg h, if_neg h]
  exact ⟨hji k, hjs k⟩
 by_cases hw : want.length = o.length
 case neg =>
  have hne : ((want.length : Int) != (o.length : Int)) = true := bne_iff_ne.mpr (by omega)
  refine ⟨(0, [], false), by simp, by simp [total], fun k hk => ?_⟩
  obtain ⟨k, rfl⟩ : ∃ m, k = m + 1 := ⟨k - 1, by omega⟩
  unfold impl_CnfFor.f spec_CnfFor.f
  rw [implCirc_val _ _ _ _ (by omega), specCirc_val _ _ _ _ (by omega), Option.bind_some, Option.bind_some, if_pos h, if_pos h, hne]
  exact ⟨hji k, hjs k⟩
 have heq : ((want.length : Int) != (o.length : Int)) = false := bne_eq_false_iff_eq.mpr (by omega)
 have h' := h
 unfold okCirc at h'
 rw [Bool.and_eq_true, Bool.and_eq_true] at h'
 obtain ⟨hs, hg, _⟩ := h'
 obtain ⟨b1, b2, b3, b4⟩ := of_decide_eq_true hs
 obtain ⟨acc, ha, hl⟩ := gates_loop want g o n (n + (g.length : Int)) b1 b2 b3 g.length 0 [] (by omega) (by rw [List.drop_zero, show n + ((0 : Nat) : Int) = n by omega]; exact hg) (by simp)
 obtain ⟨acc', hl2⟩ := outs_loop want o (n + (g.length : Int)) hw b4 o.length 0 acc (by omega) (by omega)
 have hwi : wrap64 (n + (g.length : Int)) = n + (g.length : Int) := wrap64_id _ (by omega) (by omega)
 have hki : ∀ k, 3000 ≤ k → impl_CnfFor.f k n g o want = (impl_GoodCnf.f (n + (g.length : Int)) acc').bind fun t => if t = true then some (n + (g.length : Int), acc', true) else some (0, ([] : List (List Int)), false) := fun k hk => by
  obtain ⟨k, rfl⟩ : ∃ m, k = m + 1 := ⟨k - 1, by omega⟩
  unfold impl_CnfFor.f
  rw [implCirc_val _ _ _ _ (by omega), Option.bind_some, if_pos h, heq, impl_CnfFor.j0, if_neg (by decide)]
  unfold impl_Circuit_wires.f
  rw [Option.bind_some, hwi]
  have e1 := (hl (k - g.length - 1)).2
  have e2 := (hl2 (k - g.length - 1 - o.length - 1)).2
  rw [show k - g.length - 1 + g.length + 1 = k by omega, Int.natCast_zero] at e1
  rw [show k - g.length - 1 - o.length - 1 + o.length + 1 = k - g.length - 1 by omega, Int.natCast_zero] at e2
  rw [e1, e2]
 have hks : ∀ k, 3000 ≤ k → spec_CnfFor.f k n g o want = (spec_GoodCnf.f (k - 1) (n + (g.length : Int)) acc').bind fun t => if t = true then some (n + (g.length : Int), acc', true) else some (0, ([] : List (List Int)), false) := fun k hk => by
  obtain ⟨k, rfl⟩ : ∃ m, k = m + 1 := ⟨k - 1, by omega⟩
  unfold spec_CnfFor.f
  rw [specCirc_val _ _ _ _ (by omega), Option.bind_some, if_pos h, heq, spec_CnfFor.j0, if_neg (by decide)]
  unfold spec_l6For.f spec_l4Wires.f
  rw [Option.bind_some, hwi]
  have e1 := (hl (k - g.length - 1)).1
  have e2 := (hl2 (k - g.length - 1 - o.length - 1)).1
  rw [show k - g.length - 1 + g.length + 1 = k by omega, Int.natCast_zero] at e1
  rw [show k - g.length - 1 - o.length - 1 + o.length + 1 = k - g.length - 1 by omega, Int.natCast_zero] at e2
  rw [e1, e2, Option.bind_some]
  rfl
 by_cases hc : cnfB (n + (g.length : Int)) acc' = true
 ·have hc' := hc
  unfold cnfB at hc'
  rw [Bool.and_eq_true, List.all_eq_true] at hc'
  obtain ⟨c1, c2⟩ := hc'
  have c3 := of_decide_eq_true c1
  have hrow : ∀ c ∈ acc', c.length ≤ 8 := fun c hm => by
   have := c2 c hm
   unfold clauseB at this
   rw [Bool.and_eq_true] at this
   exact of_decide_eq_true this.1
  refine ⟨(n + (g.length : Int), acc', true), c3.2.2, by have := total_le acc' 8 hrow; have := c3.2.2; show total acc' ≤ 11200; omega, fun k hk => ?_⟩
  rw [hki k hk, hks k hk, implCnf_val, specCnf_val _ _ _ (by omega), Option.bind_some, if_pos hc]
  exact ⟨rfl, rfl⟩
 ·refine ⟨(0, [], false), by simp, by simp [total], fun k hk => ?_⟩
  rw [hki k hk, hks k hk, implCnf_val, specCnf_val _ _ _ (by omega), Option.bind_some, if_neg hc]
  exact ⟨rfl, rfl⟩
end Go.Proofs.Ytgdmdaalmoioeaa.Pure

namespace Go.Proofs.Ytgdmdaalmoioeaa.Pure
open Go.RowKit Go.Proofs.Ytgdmdaalmoioeaa.X Go.Proofs.YtgdmdaalmoioeaaW.PrintWords Go.Proofs.YtgdmdaalmoioeaaW.PrintLast Go.Proofs.YtgdmdaalmoioeaaW.PrintMore Go.Proofs.Ytgdmdaalmoioeaa.Bits
theorem heldInt_loop (b : Int) (hb : 0 ≤ b) (hb2 : b ≤ 100000000) (n : Nat) (hn : n ≤ 1048576) (d : Nat) : ∀ (i k : Nat), i + d = n → d < k →
  laws_heldIntS.l0 k (mkInt b n) (b + 1 * (i : Int)) (i : Int) = some (b + 1 * (n : Int)) := by
 induction d with
 | zero =>
  intro i k hi hk
  obtain ⟨k, rfl⟩ : ∃ m, k = m + 1 := ⟨k - 1, by omega⟩
  obtain rfl : i = n := by omega
  simp only [laws_heldIntS.l0]
  rw [if_neg (by rw [mkInt_len]; omega)]
 | succ d ih =>
  intro i k hi hk
  obtain ⟨k, rfl⟩ : ∃ m, k = m + 1 := ⟨k - 1, by omega⟩
  have e1 : wrap64 ((i : Int) + 1) = ((i + 1 : Nat) : Int) := by rw [wrap64_id _ (by omega) (by omega)]; omega
  have q0 : wrap64 (b + 1 * (i : Int) + 1) = b + 1 * ((i + 1 : Nat) : Int) := by rw [wrap64_id _ (by omega) (by omega)]; omega
  simp only [laws_heldIntS.l0]
  rewrite [if_pos (by rw [mkInt_len]; omega), if_pos (by omega), mkInt_at b n i (by omega), q0]
  rewrite [if_pos (by rfl), e1]
  exact ih (i + 1) k (by omega) (by omega)
theorem heldInt_val (k : Nat) (b : Int) (hb : 0 ≤ b) (hb2 : b ≤ 100000000) (n : Nat) (hn : n ≤ 1048576) (hk : n < k) : laws_heldIntS.f k (mkInt b n) b = some (b + 1 * (n : Int)) := by
 have := heldInt_loop b hb hb2 n hn n 0 k (by omega) hk
 unfold laws_heldIntS.f
 simpa using this
/-- Rows written over, numbered on from a. -/
def mkSS (a : Int) : List (List Int) → List (List Int)
 | [] => []
 | x :: t => mkInt a x.length :: mkSS (a + 1 * (x.length : Int)) t
theorem mkSS_len : ∀ (l : List (List Int)) (a : Int), (mkSS a l).length = l.length
 | [], _ => rfl
 | x :: t, a => by rw [mkSS, List.length_cons, List.length_cons, mkSS_len t]
theorem mkSSF_val (k : Nat) : ∀ (l : List (List Int)) (a : Int), 0 ≤ a → a + (total l : Int) ≤ 100000000 → total l ≤ 1048576 → total l < k → mkSSF k l a = some (a + (total l : Int), mkSS a l)
 | [], a, _, _, _, _ => by rw [mkSSF]; simp [total, mkSS]
 | x :: t, a, h0, h1, h2, h3 => by
  have hc := total_cons x t
  rw [mkSSF, markInt_val k a h0 (by omega) x (by omega) (by omega), Option.bind_some]
  dsimp only
  rw [mkSSF_val k t _ (by omega) (by omega) (by omega) (by omega), Option.bind_some, mkSS, hc]
  dsimp only
  rw [show a + 1 * (x.length : Int) + (total t : Int) = a + ((x.length + total t : Nat) : Int) by omega]
theorem heldSS_loop (k0 : Nat) : ∀ (rest : List (List Int)) (pre : List (List Int)) (a : Int) (k : Nat), 0 ≤ a → a + (total rest : Int) ≤ 100000000 → total rest ≤ 1048576 → pre.length + rest.length ≤ 1048576 → rest.length + total rest < k →
  laws_heldIntSS.l0 k (pre ++ mkSS a rest) a (pre.length : Int) = some (a + (total rest : Int))
 | [], pre, a, k, _, _, _, _, hk => by
  obtain ⟨k, rfl⟩ : ∃ m, k = m + 1 := ⟨k - 1, by omega⟩
  rw [laws_heldIntSS.l0, mkSS, List.append_nil, if_neg (by omega)]
  simp [total]
 | x :: t, pre, a, k, h0, h1, h2, h3, hk => by
  obtain ⟨k, rfl⟩ : ∃ m, k = m + 1 := ⟨k - 1, by omega⟩
  have hc := total_cons x t
  rw [List.length_cons] at h3 hk
  have hlen : (pre ++ mkSS a (x :: t)).length = pre.length + (t.length + 1) := by rw [List.length_append, mkSS_len, List.length_cons]
  have e1 : wrap64 ((pre.length : Int) + 1) = (((pre ++ [mkInt a x.length]).length : Nat) : Int) := by rw [wrap64_id _ (by omega) (by omega), List.length_append, List.length_singleton]; omega
  have hget : rd_L3 (pre ++ mkSS a (x :: t)) (pre.length : Int) = mkInt a x.length := by
   rw [rdIS_at (by rw [hlen]; omega), List.getElem_append_right (Nat.le_refl _)]
   simp only [Nat.sub_self, mkSS, List.getElem_cons_zero]
  rw [laws_heldIntSS.l0, if_pos (by rw [hlen]; omega), if_pos (by omega), hget, heldInt_val k a h0 (by omega) x.length (by omega) (by omega), Option.bind_some, if_neg (by omega), e1, mkSS]
  have := heldSS_loop k0 t (pre ++ [mkInt a x.length]) (a + 1 * (x.length : Int)) k (by omega) (by omega) (by omega) (by rw [List.length_append, List.length_singleton]; omega) (by omega)
  rw [List.append_assoc, List.singleton_append] at this
  rw [this, hc]
  congr 1
  omega
theorem heldCnf_val (k : Nat) (n : Int) (l : List (List Int)) (hl : l.length ≤ 1048576) (h : total l ≤ 1048576) (hk : l.length + total l < k) : laws_heldCnf.f k n (mkSS 1 l) 1 = some (1 + (total l : Int)) := by
 unfold laws_heldCnf.f laws_heldIntSS.f
 have := heldSS_loop 0 l [] 1 k (by decide) (by omega) h (by rw [List.length_nil]; omega) hk
 rw [List.nil_append, List.length_nil, Int.natCast_zero] at this
 rw [this, Option.bind_some, if_neg (by omega)]
theorem FnExactCnfFor : laws_FnExactCnfFor.Pure := by
 intro a0 g o want _ h2 h3 h4
 by_cases h5 : (want.length : Int) > 1048576
 ·exact ⟨0, by unfold laws_FnExactCnfFor.f; rw [if_pos h5]⟩
 have hg : g.length ≤ 9223372036854775807 := by have := h2.1; unfold maxLen at this; omega
 have ho : o.length ≤ 9223372036854775807 := by have := h3.1; unfold maxLen at this; omega
 by_cases hs : g.length + o.length ≤ 1048576
 case neg =>
  refine ⟨0, ?_⟩
  unfold laws_FnExactCnfFor.f
  rw [if_neg h5, szCircuit_val a0 g o hg ho, if_neg hs, Option.bind_some, if_pos (by decide)]
 obtain ⟨R, hR, hR2, hK⟩ := both_for a0 (g.map convGate) o want
 obtain ⟨x, y, b⟩ := R
 have hy : y.length ≤ 1400 := hR
 have hy2 : total y ≤ 11200 := hR2
 have hgl : (g.map convGate).length = g.length := List.length_map _
 obtain ⟨G, hG⟩ : ∃ G, g.map convGate = G := ⟨_, rfl⟩
 rw [hG] at hgl hK
 obtain ⟨m, hm⟩ : ∃ m, m = g.length + o.length + want.length + 30000 := ⟨_, rfl⟩
 have hto : ∀ k, m ≤ k → laws_toCircuit.f k a0 g o = some (a0, G, o) := fun k hk => by rw [toCircuit_val k a0 g o hs (by omega), hG]
 have htb : ∀ k, m ≤ k → laws_toBoolS.f k want = some want := fun k hk => toBool_val k want (by omega) (by omega)
 have hkk : ∀ k, m ≤ k → impl_CnfFor.f k a0 G o want = some (x, y, b) ∧ spec_CnfFor.f k a0 G o want = some (x, y, b) := fun k hk => hK k (by omega)
 have heq : ∀ k, m ≤ k → laws_eqCnf.f k x y x y = some true := fun k hk => eqCnf_val k x y (show y.length + total y ≤ 1048576 by omega) (by omega)
 have hec : ∀ k, m ≤ k → laws_eqCircuit.f k a0 G o a0 G o = some true := fun k hk => eqCircuit_val k a0 G o (by omega) (by omega)
 have heb : ∀ k, m ≤ k → laws_eqBoolS.f k want want = some true := fun k hk => eqBool_val k want (by omega) (by omega)
 have hbb : ∀ b : Bool, (b != b) = false := fun b => by cases b <;> rfl
 have hmc : ∀ k, m ≤ k → ∃ g2 o2, laws_markCircuit.f k a0 G o 1 = some (1 + 3 * (G.length : Int) + 1 * (o.length : Int), g2, o2) := fun k hk => by
  unfold laws_markCircuit.f
  rw [markGate_val k 1 (by decide) (by decide) G (by omega) (by omega), Option.bind_some]
  dsimp only
  rw [markInt_val k _ (by omega) (by omega) o (by omega) (by omega), Option.bind_some]
  exact ⟨_, _, rfl⟩
 have hmb : ∀ k, m ≤ k → laws_markBoolS.f k want (1 + 3 * (G.length : Int) + 1 * (o.length : Int)) = some (1 + 3 * (G.length : Int) + 1 * (o.length : Int) + 1 * (want.length : Int), mkBool (1 + 3 * (G.length : Int) + 1 * (o.length : Int)) want.length) := fun k hk => markBool_val k _ (by omega) (by omega) want (by omega) (by omega)
 have hmk : ∀ k, m ≤ k → laws_markCnf.f k x y 1 = some (1 + (total y : Int), mkSS 1 y) := fun k hk => by
  unfold laws_markCnf.f
  rw [if_pos (by omega)]
  exact mkSSF_val k y 1 (by decide) (by omega) (by omega) (by omega)
 have hhc : ∀ k, m ≤ k → laws_heldCnf.f k x (mkSS 1 y) 1 = some (1 + (total y : Int)) := fun k hk => heldCnf_val k x y (by omega) (by omega) (by omega)
 have hj2 : ∀ k, m ≤ k → laws_FnExactCnfFor.j2 (k + 1) (1 + (total y : Int)) false x (mkSS 1 y) = some true := fun k hk => by
  rw [laws_FnExactCnfFor.j2, if_neg (by decide), hhc k hk, Option.bind_some, if_neg (by omega), if_pos rfl]
 have hj1 : ∀ k, m ≤ k → laws_FnExactCnfFor.j1 (k + 2) want b false a0 g o x y x y = some true := fun k hk => by
  rw [laws_FnExactCnfFor.j1, if_neg (by decide), hmk _ (by omega), Option.bind_some]
  dsimp only
  rw [hhc _ (by omega), Option.bind_some, if_neg (by omega), if_pos rfl, hto _ (by omega), Option.bind_some]
  dsimp only
  rw [htb _ (by omega), Option.bind_some, (hkk _ (by omega)).1, Option.bind_some]
  dsimp only
  rw [heq _ (by omega), Option.bind_some, if_pos rfl, hbb]
  exact hj2 k hk
 refine ⟨m + 3, ?_⟩
 unfold laws_FnExactCnfFor.f
 rw [if_neg h5, szCircuit_val a0 g o hg ho, if_pos hs, Option.bind_some, if_neg (by omega), hto _ (by omega), Option.bind_some]
 dsimp only
 rw [htb _ (by omega), Option.bind_some, (hkk _ (by omega)).2, Option.bind_some]
 dsimp only
 rw [Option.bind_some]
 dsimp only
 rw [Option.bind_some, (hkk _ (by omega)).1, Option.bind_some]
 dsimp only
 rw [heq _ (by omega), Option.bind_some, if_pos rfl, hbb]
 obtain ⟨g2, o2, hc2⟩ := hmc (m + 2) (by omega)
 rw [laws_FnExactCnfFor.j0, if_neg (by decide), hto _ (by omega), Option.bind_some]
 dsimp only
 rw [hec _ (by omega), Option.bind_some, if_pos rfl, htb _ (by omega), Option.bind_some, heb _ (by omega), Option.bind_some, if_pos rfl, hc2, Option.bind_some]
 dsimp only
 rw [hmb _ (by omega), Option.bind_some]
 dsimp only
 rw [if_neg (by omega), heq _ (by omega), Option.bind_some, if_pos rfl, hbb]
 exact hj1 m (Nat.le_refl _)
end Go.Proofs.Ytgdmdaalmoioeaa.Pure
