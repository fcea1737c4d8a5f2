/- The laws' own list functions (copying, comparing, measuring, writing over, looking again) come to plain lists. Conditions: lists no longer than 2^20. Written by wip/xp/lists.py. -/
import Derived.Test.YtdmngodinbelfaaListsF
import Derived.Test.YtdmngodinbelfaaX12
import Derived.Test.YtdmngodinbelfaaX14
import Derived.Test.YtdmngodinbelfaaXO
namespace Go.Proofs.Ytdmngodinbelfaa.Pure
open Go.RowKit Go.Proofs.Ytdmngodinbelfaa.X Go.Proofs.YtdmngodinbelfaaW.PrintWords Go.Proofs.YtdmngodinbelfaaW.PrintLast Go.Proofs.YtdmngodinbelfaaW.PrintMore Go.Proofs.Ytdmngodinbelfaa.Bits
theorem rdBool_at {t : List Bool} {i : Nat} (h : i < t.length) : rdOf false t (i : Int) = t[i] := by
  unfold rdOf
  rw [Int.toNat_natCast, List.getD_eq_getElem?_getD, List.getElem?_eq_getElem h]; rfl
theorem toBool_loop (l : List Bool) (hl : l.length ≤ 1048576) (d : Nat) : ∀ (i : Nat) (k : Nat), i + d = l.length → d < k →
    laws_toBoolS.l0 k l ((l.take i) ++ List.replicate d false) (i : Int) = some (l) := by
  induction d with
  | zero =>
    intro i k hi hk
    obtain ⟨k, rfl⟩ : ∃ m, k = m + 1 := ⟨k - 1, by omega⟩
    simp only [laws_toBoolS.l0]
    rw [if_neg (by omega), List.take_of_length_le (by omega)]
    simp
  | succ d ih =>
    intro i k hi hk
    obtain ⟨k, rfl⟩ : ∃ m, k = m + 1 := ⟨k - 1, by omega⟩
    have hit : i < l.length := by omega
    have e1 : wrap64 ((i : Int) + 1) = ((i + 1 : Nat) : Int) := by rw [wrap64_id _ (by omega) (by omega)]; omega
    simp only [laws_toBoolS.l0]
    rewrite [if_pos (by omega), if_pos (by omega)]
    rewrite [if_pos (by simp; omega), rdBool_at hit, e1, Int.toNat_natCast, List.replicate_succ, set_mid _ _ _ _ _ (by simp; omega)]
    have h2 : (l.take i) ++ l[i] :: List.replicate d false = (l.take (i + 1)) ++ List.replicate d false := by
      rw [List.take_add_one, List.getElem?_eq_getElem hit, Option.toList_some, List.append_assoc]
      rfl
    rewrite [h2]
    exact ih (i + 1) k (by omega) (by omega)
theorem toBool_val (k : Nat) (l : List Bool) (hl : l.length ≤ 1048576) (hk : l.length < k) : laws_toBoolS.f k l = some (l) := by
  unfold laws_toBoolS.f
  rw [if_pos (by omega), Int.toNat_natCast, if_pos (by omega)]
  have := toBool_loop l hl l.length 0 k (by omega) hk
  simpa using this
theorem eqBool_loop (l : List Bool) (hl : l.length ≤ 1048576) (d : Nat) : ∀ (i : Nat) (k : Nat), i + d = l.length → d < k → laws_eqBoolS.l0 k l l (i : Int) = some true := by
  induction d with
  | zero =>
    intro i k hi hk
    obtain ⟨k, rfl⟩ : ∃ m, k = m + 1 := ⟨k - 1, by omega⟩
    simp only [laws_eqBoolS.l0]
    rw [if_neg (by omega)]
  | succ d ih =>
    intro i k hi hk
    obtain ⟨k, rfl⟩ : ∃ m, k = m + 1 := ⟨k - 1, by omega⟩
    have e1 : wrap64 ((i : Int) + 1) = ((i + 1 : Nat) : Int) := by rw [wrap64_id _ (by omega) (by omega)]; omega
    simp only [laws_eqBoolS.l0]
    rewrite [if_pos (by omega), if_pos (by omega), if_pos (by omega)]
    rewrite [if_neg (by simp)]
    rewrite [e1]
    exact ih (i + 1) k (by omega) (by omega)
theorem eqBool_val (k : Nat) (l : List Bool) (hl : l.length ≤ 1048576) (hk : l.length < k) : laws_eqBoolS.f k l l = some true := by
  unfold laws_eqBoolS.f
  rw [if_pos rfl]
  exact eqBool_loop l hl l.length 0 k (by omega) hk

end Go.Proofs.Ytdmngodinbelfaa.Pure
