/- The law on ReadNum: a text is read just where it is the decimal numeral of a 64-bit number, by strconv.ParseUint and strconv.FormatUint as by the reference; the row and its card. Conditions: those of the row. -/
import Derived.Test.YtkafeohhljdohaaDoorX0
import Derived.Test.YtkafeohhljdohaaDoorX1
import Derived.Test.YtkafeohhljdohaaDoorX2
import Derived.Test.YtkafeohhljdohaaDoorShelf
import Derived.Lib.Walk
import Derived.Lib.ItoaMem
import Derived.Lib.AppendIntMem
import Derived.WalkKit
import Derived.BigCall
import Derived.BigGuard
import Derived.Test.YtkafeohhljdohaaDoorRows
import Derived.Test.YtkafeohhljdohaaDoorCards
import Derived.Test.YtkafeohhljdohaaDoorTie
import Derived.SevenTiedAt
import Derived.SizedLaws
import Derived.ChangeSame
import Derived.ChangeVars
import Derived.ChangeMaps5
import Derived.JoinedOf
import Derived.JoinedAt
import Derived.RowKit
import Derived.RowKit3
import Derived.RowKitTokens
import Derived.LaidLaws
import Derived.Deep.DeepLaidRun
import Derived.Stop.LaidErr
import Derived.Lib.LaidTab
namespace Go.Proofs.YtkafeohhljdohaaDoor.X
open Go.RowKit Go.Proofs.YtkafeohhljdohaaDoorW.PrintWords Go.Proofs.YtkafeohhljdohaaDoorW.PrintLast Go.Proofs.YtkafeohhljdohaaDoorW.PrintMore
set_option linter.unusedVariables false
set_option linter.unusedSimpArgs false
-- IMPORT Derived.Test.YtkafeohhljdohaaDoorShelf
-- IMPORT Derived.Lib.Walk
-- IMPORT Derived.Lib.ItoaMem
-- IMPORT Derived.Lib.AppendIntMem
-- IMPORT Derived.WalkKit
-- IMPORT Derived.BigCall
-- IMPORT Derived.BigGuard
open Go.Shelf Go.RowKit Go.Sort Go.Lib
set_option maxHeartbeats 6400000 in
set_option maxRecDepth 100000 in
/-- internal/strconv.FormatUint at base 10: the decimal numeral. -/
theorem formatUint_in (u : Nat) (hu64 : u < 18446744073709551616) (w : World) (htab : Lib.TabIs Tryd.prog w "internal/strconv.uint64pow10" .u64 Lib.pow10Tab) :
    Calls Tryd.prog 13 #[.int .u64 u, .int .i64 10] w fun e w' => e = .returned (.string ⟨(Lib.decDigits u).toArray⟩) ∧ ∃ k os, w' = grow (w.drewN k) os := by
  by_cases hs : u < 100
  · have d1 : decide ((u : Int) < 100) = true := decide_eq_true (by omega)
    go_enter Tryd.func13, Tryd.ntmps13
    go_wp2_with (go_at_call 16; refine (Tryd.internal_strconv_small u hs _).mono ?_; rintro e w' ⟨rfl, rfl⟩)
    go_ret
    exact ⟨rfl, 0, #[], by simp [World.drewN_zero]⟩
  · have d1 : decide ((u : Int) < 100) = false := decide_eq_false (by omega)
    have hu1 : 1 ≤ u := by omega
    have hnd20 : Lib.nDigits u ≤ 20 := by have := Lib.numDigits_eq u hu1 hu64; split at this <;> omega
    have hal : Tryd.prog.arrayLen 37 = 24 := by kernel_rfl
    have hsl1 : ∀ W, (Instr.sliceAt 37 (.pointer (some ⟨w.heap.size, 0, none⟩)) none (some (.int .i64 (Lib.nDigits u : Int))) none).run Tryd.prog W = .ok (.slice (some ⟨w.heap.size, 0, none⟩) (Lib.nDigits u) 24) W := fun W => by
      rw [run_sliceAt_array_h W 37 ⟨w.heap.size, 0, none⟩ (by kernel_rfl) .i64 (Lib.nDigits u : Int) (by omega) (by rw [hal]; omega)]
      go_simp
      (try rw [hal])
    have hH0 := Lib.holds_zero0 w 37 (Lib.nDigits u) (by omega)
    have hfmt := Tryd.internal_strconv_formatBase10 w.heap.size 0 24 u (Array.replicate (Lib.nDigits u) 0) (w.alloc (.cells Lib.zeros24 37)) hH0 (by rw [Array.size_replicate]; exact Lib.lt_pow_nDigits u) hu64 (by rw [Array.size_replicate]; omega)
    rw [Array.size_replicate] at hfmt
    have HH0 := Lib.hid hH0
    clear hH0 hal hs
    go_enter Tryd.func13, Tryd.ntmps13
    go_wp2_with (first
      | (go_at_call 17; refine (Tryd.internal_strconv_numDigits u hu1 hu64 _ (Lib.tabIs_alloc htab _)).mono ?_; rintro e w' ⟨rfl, rfl⟩))
    go_at_call 18
    refine hfmt.mono ?_
    rintro e w' ⟨rfl, k, v', dk, rfl, hF⟩
    have hcv : (convert 34 9 (.slice (some ⟨w.heap.size, 0, none⟩) (Lib.nDigits u) 24)).run Tryd.prog ((putRow (fun (b : UInt8) => Value.int .u8 (b.toNat : Int)) (w.alloc (.cells Lib.zeros24 37)) w.heap.size 0 dk).drewN k) = .ok (.string ⟨(Lib.decDigits u).toArray⟩) ((putRow (fun (b : UInt8) => Value.int .u8 (b.toNat : Int)) (w.alloc (.cells Lib.zeros24 37)) w.heap.size 0 dk).drewN k) := by
      have h := run_convert_bytes_back (P := Tryd.prog) ((putRow (fun (b : UInt8) => Value.int .u8 (b.toNat : Int)) (w.alloc (.cells Lib.zeros24 37)) w.heap.size 0 dk).drewN k) 34 9 5 ⟨w.heap.size, 0, none⟩ 24 (Lib.decDigits u) (by kernel_rfl) (by kernel_rfl) (by kernel_rfl) (fun j hj => by
        rw [Lib.row_is_numeral hF j hj, Lib.add_plain, World.cell?_drewN]
        exact cell?_putRow (fun (b : UInt8) => Value.int .u8 (b.toNat : Int)) _ w.heap.size 0 _ dk HH0.out (by rw [hF.size, Array.size_replicate]) j (by rw [hF.size]; rw [Lib.decDigits_length] at hj; exact hj))
      rw [Lib.decDigits_length] at h
      exact h
    go_wp2
    go_ret
    obtain ⟨os, eo⟩ := Lib.fin_at w (.cells Lib.zeros24 37) dk k 0
    exact ⟨rfl, k, os, eo⟩
/-- strconv.FormatUint at base 10. -/
theorem formatUint_pub (u : Nat) (hu64 : u < 18446744073709551616) (w : World) (htab : Lib.TabIs Tryd.prog w "internal/strconv.uint64pow10" .u64 Lib.pow10Tab) :
    Calls Tryd.prog 10 #[.int .u64 u, .int .i64 10] w fun e w' => e = .returned (.string ⟨(Lib.decDigits u).toArray⟩) ∧ ∃ k os, w' = grow (w.drewN k) os := by
  have h := formatUint_in u hu64 w htab
  go_enter Tryd.func10, Tryd.ntmps10
  go_wp2_with (go_at_call 13; refine h.mono ?_; rintro e w' ⟨rfl, k, os, rfl⟩)
  go_ret
  exact ⟨rfl, k, os, rfl⟩
/-- impl.NumText: the decimal numeral. -/
theorem numText_impl (u : Nat) (hu64 : u < 18446744073709551616) (w : World) (htab : Lib.TabIs Tryd.prog w "internal/strconv.uint64pow10" .u64 Lib.pow10Tab) :
    Calls Tryd.prog 6 #[.int .u64 u] w fun e w' => e = .returned (.string ⟨(Lib.decDigits u).toArray⟩) ∧ ∃ k os, w' = grow (w.drewN k) os := by
  have h := formatUint_pub u hu64 w htab
  go_enter Tryd.func6, Tryd.ntmps6
  go_wp2_with (go_at_call 10; refine h.mono ?_; rintro e w' ⟨rfl, k, os, rfl⟩)
  go_ret
  exact ⟨rfl, k, os, rfl⟩

theorem bytes_list (s : ByteArray) : s.toList = s.data.toList := by
  obtain ⟨⟨l⟩⟩ := s
  rw [show (ByteArray.mk { toList := l }) = ByteArray.mk l.toArray from rfl, ByteArray.toList_mk]
/-- What ReadNum answers. -/
def readVal (l : List UInt8) : Int × Bool :=
  match Lib.parseUintB 64 l with
  | .ok u => if Lib.decDigits u = l then ((u : Int), true) else (0, false)
  | _ => (0, false)
set_option maxRecDepth 100000 in
set_option maxHeartbeats 3200000 in
/-- impl.ReadNum. -/
theorem readNum_impl (s : ByteArray) (hlim : s.size ≤ 281474976710656) (ev1 ev2 : Value) (w : World) (htab : Lib.TabIs Tryd.prog w "internal/strconv.uint64pow10" .u64 Lib.pow10Tab)
    (hv1 : w.cell? ⟨1, 0, none⟩ = some ev1) (he1 : ev1 = .nilIface ∨ ∃ te pe, ev1 = .iface te pe) (hv2 : w.cell? ⟨2, 0, none⟩ = some ev2) (he2 : ev2 = .nilIface ∨ ∃ te pe, ev2 = .iface te pe) :
    Calls Tryd.prog 8 #[.string s] w fun e w' => e = .returned (.tuple #[.int .u64 (readVal s.data.toList).1, .bool (readVal s.data.toList).2]) ∧ Below w.heap.size w w' := by
  cases h : Lib.parseUintB 64 s.data.toList with
  | ok u =>
    have hu : u < 18446744073709551616 := by have := Lib.parseUintB_le h; omega
    obtain ⟨t, ht⟩ : ∃ t : ByteArray, (⟨(Lib.decDigits u).toArray⟩ : ByteArray) = t := ⟨_, rfl⟩
    have hts : t.data.toList = Lib.decDigits u := by rw [← ht]
    have HT := Aside0.mk (Lib.tabBelow_of_tabIs htab)
    have hI : ∀ W, Below w.heap.size w W → Calls Tryd.prog 6 #[.int .u64 u] W fun e w' => e = .returned (.string t) ∧ Below W.heap.size W w' := fun W hb => by
      refine (numText_impl u hu W (HT.out W hb)).mono ?_
      rintro e w' ⟨he, n, os, rfl⟩
      exact ⟨by rw [he, ht], ⟨rfl, rfl, rfl, by simp [Go.Sort.grow, World.drewN], fun i hi => Lib.heap_grow_old W n os i hi⟩⟩
    have HP : ∀ W, Calls Tryd.prog 12 #[.string s, .int .i64 10, .int .i64 64] W fun e w' => e = .returned (.tuple #[.int .u64 u, .nilIface]) ∧ Below W.heap.size W w' := fun W => by
      refine (Tryd.strconv_ParseUint_10_at64_ok s (by omega) u h W).mono ?_
      rintro e w' ⟨he, hw⟩
      refine ⟨he, ?_⟩
      rcases hw with rfl | rfl
      · exact Below.refl _ _
      · exact Lib.bytesWorld_below _ _ _
    have hr : readVal s.data.toList = if t.data.toList = s.data.toList then ((u : Int), true) else (0, false) := by unfold readVal; rw [h, hts]
    have HI := Aside0.mk hI
    have HPP := Aside0.mk HP
    have HB := Aside0.mk (Below.refl w.heap.size w)
    rw [hr]
    clear hI HP h hr hv1 he1 hv2 he2 htab HT ht hts hlim hu
    by_cases hq : t.toList = s.toList
    · have hq1 : t.data.toList = s.data.toList := by
        have e1 := bytes_list t
        have e2 := bytes_list s
        rw [← e1, ← e2, hq]
      rw [if_pos hq1]
      have hqb : (t.toList == s.toList) = true := by rw [hq]; exact beq_self_eq_true _
      clear hq1 hq
      go_enter Tryd.func8, Tryd.ntmps8
      go_wp2_with (first | (go_at_call 12; (refine (HPP.out _).mono ?_); rintro e w1 ⟨rfl, hb⟩; have HB1 := Aside0.mk (below_step (HB.out) hb); clear hb) | (go_at_call 6; (refine (HI.out _ (by repeat (first | (with_reducible first | exact HB1.out | apply below_alloc | apply pw_below_drewN | apply below_drew1) | exact HB1.out))).mono ?_); rintro e w2 ⟨rfl, hb⟩; have HB2 := Aside0.mk (below_step (by repeat (first | (with_reducible first | exact HB1.out | apply below_alloc | apply pw_below_drewN | apply below_drew1) | exact HB1.out)) hb); clear hb))
      go_ret2
      exact ⟨rfl, by repeat (first | (with_reducible first | exact HB2.out | apply below_alloc | apply pw_below_drewN | apply below_drew1) | exact HB2.out)⟩
    · have hq1 : ¬ t.data.toList = s.data.toList := by
        have e1 := bytes_list t
        have e2 := bytes_list s
        rw [← e1, ← e2]; exact hq
      rw [if_neg hq1]
      have hqb : (t.toList == s.toList) = false := beq_eq_false_iff_ne.mpr hq
      clear hq1 hq
      go_enter Tryd.func8, Tryd.ntmps8
      go_wp2_with (first | (go_at_call 12; (refine (HPP.out _).mono ?_); rintro e w1 ⟨rfl, hb⟩; have HB1 := Aside0.mk (below_step (HB.out) hb); clear hb) | (go_at_call 6; (refine (HI.out _ (by repeat (first | (with_reducible first | exact HB1.out | apply below_alloc | apply pw_below_drewN | apply below_drew1) | exact HB1.out))).mono ?_); rintro e w2 ⟨rfl, hb⟩; have HB2 := Aside0.mk (below_step (by repeat (first | (with_reducible first | exact HB1.out | apply below_alloc | apply pw_below_drewN | apply below_drew1) | exact HB1.out)) hb); clear hb))
      go_ret2
      exact ⟨rfl, by repeat (first | (with_reducible first | exact HB2.out | apply below_alloc | apply pw_below_drewN | apply below_drew1) | exact HB2.out)⟩
  | range =>
    have hr : readVal s.data.toList = (0, false) := by unfold readVal; rw [h]
    have HP := Aside0.mk (Tryd.strconv_ParseUint_10_at64_range s hlim h ev2 w hv2 he2)
    rw [hr]
    clear h hr hv1 he1 hv2 he2 htab hlim
    go_enter Tryd.func8, Tryd.ntmps8
    go_wp2_with (go_at_call 12; (refine (HP.out).mono ?_); rintro e w1 ⟨N, rfl, -, -, hb⟩; have HB1 := Aside0.mk hb; clear hb)
    go_ret2
    exact ⟨rfl, HB1.out⟩
  | _ =>
    have hr : readVal s.data.toList = (0, false) := by unfold readVal; rw [h]
    have HP := Aside0.mk (Tryd.strconv_ParseUint_10_at64_syntax s hlim (h.trans rfl) ev1 w hv1 he1)
    rw [hr]
    clear h hr hv1 he1 hv2 he2 htab hlim
    go_enter Tryd.func8, Tryd.ntmps8
    go_wp2_with (go_at_call 12; (refine (HP.out).mono ?_); rintro e w1 ⟨N, rfl, -, -, hb⟩; have HB1 := Aside0.mk hb; clear hb)
    go_ret2
    exact ⟨rfl, HB1.out⟩
/-- The law on ReadNum, where the reference answers the same. -/
theorem readNum_law (s : ByteArray) (k : Nat) (hlim : s.size ≤ 281474976710656) (ev1 ev2 : Value) (w : World) (htab : Lib.TabIs Tryd.prog w "internal/strconv.uint64pow10" .u64 Lib.pow10Tab)
    (hv1 : w.cell? ⟨1, 0, none⟩ = some ev1) (he1 : ev1 = .nilIface ∨ ∃ te pe, ev1 = .iface te pe) (hv2 : w.cell? ⟨2, 0, none⟩ = some ev2) (he2 : ev2 = .nilIface ∨ ∃ te pe, ev2 = .iface te pe)
    (hsz : 2 < w.heap.size) (h : s.size ≤ 1048576 → spec_ReadNum.f k s = some (readVal s.data.toList)) :
    Calls Tryd.prog 4 #[.string s] w fun e w' => e = .returned (.bool true) ∧ Below w.heap.size w w' := by
  by_cases hl : s.size ≤ 1048576
  · have HT := Aside0.mk (Lib.tabBelow_of_tabIs htab)
    have hR := h hl
    obtain ⟨r1, hr1⟩ : ∃ r, (readVal s.data.toList).1 = r := ⟨_, rfl⟩
    obtain ⟨r2, hr2⟩ : ∃ r, (readVal s.data.toList).2 = r := ⟨_, rfl⟩
    rw [show readVal s.data.toList = (r1, r2) by rw [← hr1, ← hr2]] at hR
    have hI : ∀ W, Below w.heap.size w W → Calls Tryd.prog 8 #[.string s] W fun e w' => e = .returned (.tuple #[.int .u64 r1, .bool r2]) ∧ Below W.heap.size W w' := fun W hb => by
      have h1 := readNum_impl s hlim ev1 ev2 W (HT.out W hb) ((hb.cell (p := ⟨1, 0, none⟩) (by show 1 < _; omega)).trans hv1) he1 ((hb.cell (p := ⟨2, 0, none⟩) hsz).trans hv2) he2
      rw [hr1, hr2] at h1
      exact h1
    have HI := Aside0.mk hI
    have HS := Aside0.mk hR
    have HB := Aside0.mk (Below.refl w.heap.size w)
    have hl2 : ¬ (1048576 < (s.size : Int)) := by omega
    clear hI h htab HT hr1 hr2 hR hv1 he1 hv2 he2 hsz hlim
    go_enter Tryd.func4, Tryd.ntmps4
    go_wp2_with (first | (go_at_call 7; (refine (spec_ReadNum.calls k s r1 r2 _ HS.out).mono ?_); rintro e w1 ⟨rfl, hb⟩; have HB1 := Aside0.mk (below_step (HB.out) hb); clear hb) | (go_at_call 8; (refine (HI.out _ (by repeat (first | (with_reducible first | exact HB1.out | apply below_alloc | apply pw_below_drewN | apply below_drew1) | exact HB1.out))).mono ?_); rintro e w2 ⟨rfl, hb⟩; have HB2 := Aside0.mk (below_step (by repeat (first | (with_reducible first | exact HB1.out | apply below_alloc | apply pw_below_drewN | apply below_drew1) | exact HB1.out)) hb); clear hb))
    go_ret
    exact ⟨rfl, by repeat (first | (with_reducible first | exact HB2.out | apply below_alloc | apply pw_below_drewN | apply below_drew1) | exact HB2.out)⟩
  · have hl2 : 1048576 < (s.size : Int) := by omega
    clear h
    go_enter Tryd.func4, Tryd.ntmps4
    go_wp2
    go_ret
    exact ⟨rfl, Below.refl _ _⟩

end Go.Proofs.YtkafeohhljdohaaDoor.X

namespace Go.Proofs.YtkafeohhljdohaaDoor.Pure
open Go.RowKit Go.Proofs.YtkafeohhljdohaaDoor.X Go.Proofs.YtkafeohhljdohaaDoorW.PrintWords Go.Proofs.YtkafeohhljdohaaDoorW.PrintLast Go.Proofs.YtkafeohhljdohaaDoorW.PrintMore
theorem wrap_u64 (n : Int) : IntKind.u64.wrap n = n % 18446744073709551616 := by simp [IntKind.wrap, IntKind.bits, IntKind.signed]
theorem u64_id (n : Int) (h₀ : 0 ≤ n) (h₁ : n < 18446744073709551616) : IntKind.u64.wrap n = n := by rw [wrap_u64]; omega
theorem one_str (d : Nat) (hd : d < 10) : strOfNums [(IntKind.u64.wrap (48 + (d : Int))) % 256] = ⟨[UInt8.ofNat (48 + d)].toArray⟩ := by
  rw [u64_id _ (by omega) (by omega), show ((48 + (d : Int)) % 256) = ((48 + d : Nat) : Int) by omega]
  simp only [strOfNums, List.map_cons, List.map_nil, Int.toNat_natCast]
  (try rfl)
theorem app_str (a b : List UInt8) : (⟨a.toArray⟩ : ByteArray) ++ ⟨b.toArray⟩ = ⟨(a ++ b).toArray⟩ := by
  apply ByteArray.ext
  simp [ByteArray.data_append]
theorem l1Num_val (u : Nat) : ∀ k, u < 18446744073709551616 → u < k → spec_l1Num.f k (u : Int) = some ⟨(Lib.decDigits u).toArray⟩ := by
  induction u using Nat.strongRecOn with
  | _ u ih =>
    intro k hu hk
    obtain ⟨k, rfl⟩ : ∃ m, k = m + 1 := ⟨k - 1, by omega⟩
    rw [spec_l1Num.f, Lib.decDigits]
    by_cases h : u < 10
    · rw [if_pos (by omega), dif_pos h, one_str u h]
    · have e1 : Int.tdiv (u : Int) 10 = ((u / 10 : Nat) : Int) := by rw [Int.tdiv_eq_ediv_of_nonneg (by omega)]; rfl
      have e2 : Int.tmod (u : Int) 10 = ((u % 10 : Nat) : Int) := by rw [Int.tmod_eq_emod_of_nonneg (by omega)]; rfl
      rw [if_neg (by omega), dif_neg h, e1, e2, u64_id _ (by omega) (by omega), ih (u / 10) (by omega) k (by omega) (by omega)]
      simp only [Option.bind_some]
      rw [one_str _ (by omega), app_str, if_pos]
      have h1 : (Lib.decDigits (u / 10)).length ≤ 20 := by
        rw [Lib.decDigits_length]
        have := Lib.numDigits_eq (u / 10) (by omega) (by omega)
        split at this <;> omega
      show (Lib.decDigits (u / 10)).toArray.size + 1 ≤ _
      rw [List.size_toArray]
      omega
theorem bt_list (s : ByteArray) (i : Nat) (h : i < s.data.toList.length) : bt s (i : Int) = ((s.data.toList[i]).toNat : Int) := by
  have h2 : i < s.size := by simpa using h
  have e := bt_at s (i : Int) (by simpa using h2)
  rw [← e]
  rfl
theorem wrap64_nat (n : Nat) (h : n < 4611686018427387904) : wrap64 (n : Int) = (n : Int) := by unfold wrap64; omega
/-- What the reference makes of digits. -/
def foldN (n : Int) (l : List UInt8) : Int := l.foldl (fun n c => IntKind.u64.wrap (IntKind.u64.wrap (10 * n) + (((c.toNat : Int) - 48) % 256))) n
def isD (c : UInt8) : Bool := decide (48 ≤ c.toNat ∧ c.toNat ≤ 57)
theorem fold_range (l : List UInt8) : ∀ n : Int, 0 ≤ n → n < 18446744073709551616 → 0 ≤ foldN n l ∧ foldN n l < 18446744073709551616 := by
  induction l with
  | nil => intro n h0 h1; exact ⟨h0, h1⟩
  | cons c t ih =>
    intro n h0 h1
    have e := wrap_u64 (IntKind.u64.wrap (10 * n) + (((c.toNat : Int) - 48) % 256))
    exact ih _ (by show 0 ≤ IntKind.u64.wrap _; rw [e]; omega) (by show IntKind.u64.wrap _ < _; rw [e]; omega)
theorem loop_val (s : ByteArray) (hs : s.data.toList.length ≤ 20) (d : Nat) : ∀ (i k : Nat) (n : Int), i + d = s.data.toList.length → d < k → 0 ≤ n → n < 18446744073709551616 →
    spec_ReadNum.l0 k s n (i : Int) = if (s.data.toList.drop i).all isD = true then ((spec_l1Num.f (k - d - 1) (foldN n (s.data.toList.drop i))).bind fun t128 => (if t128.toList = s.toList then (some (foldN n (s.data.toList.drop i), true)) else (some (0, false)))) else some (0, false) := by
  induction d with
  | zero =>
    intro i k n hi hk h0 h1
    obtain ⟨k, rfl⟩ : ∃ m, k = m + 1 := ⟨k - 1, by omega⟩
    simp only [spec_ReadNum.l0]
    have e2 : s.size = s.data.toList.length := by simp
    rw [if_neg (by omega), List.drop_eq_nil_of_le (by omega), if_pos (by rfl), show k + 1 - 0 - 1 = k by omega]
    rfl
  | succ d ih =>
    intro i k n hi hk h0 h1
    obtain ⟨k, rfl⟩ : ∃ m, k = m + 1 := ⟨k - 1, by omega⟩
    have hit : i < s.data.toList.length := by omega
    have e2 : s.size = s.data.toList.length := by simp
    have e1 : wrap64 ((i : Int) + 1) = ((i + 1 : Nat) : Int) := by rw [← wrap64_nat (i + 1) (by omega)]; rfl
    have hd : s.data.toList.drop i = s.data.toList[i] :: s.data.toList.drop (i + 1) := List.drop_eq_getElem_cons hit
    simp only [spec_ReadNum.l0]
    rw [if_pos (by omega), if_pos (by omega), bt_list s i hit, hd]
    obtain ⟨c, hc⟩ : ∃ c, s.data.toList[i] = c := ⟨_, rfl⟩
    rw [hc, List.all_cons]
    by_cases h2 : c.toNat < 48
    · have e : isD c = false := decide_eq_false (by omega)
      rw [if_pos (by omega), e, if_neg (by simp)]
    · by_cases h3 : c.toNat > 57
      · have e : isD c = false := decide_eq_false (by omega)
        rw [if_neg (by omega), if_pos (by omega), e, if_neg (by simp)]
      · have e : isD c = true := decide_eq_true (by omega)
        rw [if_neg (by omega), if_neg (by omega), e, Bool.true_and, e1, ih (i + 1) k _ (by omega) (by omega) (by rw [wrap_u64]; omega) (by rw [wrap_u64]; omega), show k + 1 - (d + 1) - 1 = k - d - 1 by omega]
        rfl
theorem digit_nat (m : Nat) (h : m < 10) : (UInt8.ofNat (48 + m)).toNat = 48 + m := by
  rw [UInt8.toNat_ofNat']
  omega
theorem dec_digits (u : Nat) : (Lib.decDigits u).all isD = true := by
  induction u using Nat.strongRecOn with
  | _ u ih =>
    have hd : ∀ m, m < 10 → isD (UInt8.ofNat (48 + m)) = true := fun m hm => decide_eq_true (by rw [digit_nat m hm]; omega)
    rw [Lib.decDigits]
    by_cases h : u < 10
    · rw [dif_pos h, List.all_cons, hd u h]; rfl
    · rw [dif_neg h, List.all_append, ih (u / 10) (by omega), List.all_cons, hd (u % 10) (by omega)]; rfl
theorem fold_dec (u : Nat) : u < 18446744073709551616 → foldN 0 (Lib.decDigits u) = (u : Int) := by
  induction u using Nat.strongRecOn with
  | _ u ih =>
    intro hu
    rw [Lib.decDigits]
    by_cases h : u < 10
    · rw [dif_pos h]
      unfold foldN
      simp only [List.foldl_cons, List.foldl_nil]
      rw [digit_nat u h, u64_id (10 * 0) (by omega) (by omega), u64_id _ (by omega) (by omega)]
      omega
    · have h2 := ih (u / 10) (by omega) (by omega)
      rw [dif_neg h]
      unfold foldN at h2 ⊢
      rw [List.foldl_append, h2]
      simp only [List.foldl_cons, List.foldl_nil]
      rw [digit_nat (u % 10) (by omega), u64_id (10 * _) (by omega) (by omega), u64_id _ (by omega) (by omega)]
      omega
theorem parse_snoc (M : Nat) (c : UInt8) (hc : 48 ≤ c.toNat ∧ c.toNat ≤ 57) (a : List UInt8) : ∀ (acc v : Nat), Lib.parseUintM M acc a = .ok v → v < 1844674407370955162 → v * 10 + (c.toNat - 48) ≤ M → Lib.parseUintM M acc (a ++ [c]) = .ok (v * 10 + (c.toNat - 48)) := by
  induction a with
  | nil =>
    intro acc v h h1 h2
    simp only [Lib.parseUintM] at h
    injection h with h
    subst h
    simp only [List.nil_append, Lib.parseUintM]
    rw [if_pos hc, if_neg (by omega), if_neg (by omega)]
  | cons b t ih =>
    intro acc v h h1 h2
    simp only [Lib.parseUintM, List.cons_append] at h ⊢
    split at h
    · rename_i hb
      rw [if_pos hb]
      split at h
      · cases h
      · rename_i h3
        rw [if_neg h3]
        split at h
        · cases h
        · rename_i h4
          rw [if_neg h4]
          exact ih _ _ h h1 h2
    · cases h
theorem dec_ne_nil (u : Nat) : Lib.decDigits u ≠ [] := by
  rw [Lib.decDigits]
  split <;> simp
theorem parse_dec (u : Nat) : u < 18446744073709551616 → Lib.parseUintM 18446744073709551615 0 (Lib.decDigits u) = .ok u := by
  induction u using Nat.strongRecOn with
  | _ u ih =>
    intro hu
    rw [Lib.decDigits]
    by_cases h : u < 10
    · rw [dif_pos h]
      simp only [Lib.parseUintM]
      rw [digit_nat u h, if_pos (by omega), if_neg (by omega), if_neg (by omega)]
      congr 1
      omega
    · rw [dif_neg h]
      have h2 := parse_snoc 18446744073709551615 (UInt8.ofNat (48 + u % 10)) (by rw [digit_nat (u % 10) (by omega)]; omega) (Lib.decDigits (u / 10)) 0 (u / 10) (ih (u / 10) (by omega) (by omega)) (by omega) (by rw [digit_nat (u % 10) (by omega)]; omega)
      rw [h2, digit_nat (u % 10) (by omega)]
      congr 1
      omega
theorem parseB_dec (u : Nat) (hu : u < 18446744073709551616) : Lib.parseUintB 64 (Lib.decDigits u) = .ok u := by
  unfold Lib.parseUintB
  rw [if_neg (dec_ne_nil u)]
  exact parse_dec u hu
theorem read_no (l : List UInt8) (h : ∀ u, u < 18446744073709551616 → Lib.decDigits u ≠ l) : readVal l = (0, false) := by
  unfold readVal
  cases hp : Lib.parseUintB 64 l with
  | ok u =>
    have hu : u < 18446744073709551616 := by have := Lib.parseUintB_le hp; omega
    show (if Lib.decDigits u = l then _ else _) = _
    rw [if_neg (h u hu)]
  | range => rfl
  | _ => rfl
theorem read_yes (u : Nat) (hu : u < 18446744073709551616) : readVal (Lib.decDigits u) = ((u : Int), true) := by
  unfold readVal
  rw [parseB_dec u hu]
  show (if Lib.decDigits u = Lib.decDigits u then _ else _) = _
  rw [if_pos rfl]
theorem dec_len (u : Nat) (hu : u < 18446744073709551616) : 1 ≤ (Lib.decDigits u).length ∧ (Lib.decDigits u).length ≤ 20 := by
  rw [Lib.decDigits_length]
  refine ⟨Lib.nDigits_pos u, ?_⟩
  by_cases h1 : 1 ≤ u
  · have := Lib.numDigits_eq u h1 hu
    split at this <;> omega
  · rw [Lib.nDigits_small (by omega)]; omega
theorem readNum_val (s : ByteArray) (k : Nat) (hk : k = 18446744073709551616 + 100) : spec_ReadNum.f k s = some (readVal s.data.toList) := by
  have e2 : s.size = s.data.toList.length := by simp
  have hno : (¬ (1 ≤ s.data.toList.length ∧ s.data.toList.length ≤ 20)) → readVal s.data.toList = (0, false) := fun hl => read_no _ (fun u hu he => by have := dec_len u hu; rw [he] at this; exact hl this)
  unfold spec_ReadNum.f spec_l1In.f
  by_cases h1 : (s.size : Int) ≥ 1
  · rw [if_pos h1]
    simp only [Option.bind_some]
    by_cases h2 : (s.size : Int) ≤ 20
    · rw [if_pos (decide_eq_true h2)]
      have hl := loop_val s (by omega) s.data.toList.length 0 k 0 (by omega) (by omega) (by omega) (by omega)
      rw [List.drop_zero] at hl
      rw [show ((0 : Nat) : Int) = 0 from rfl] at hl
      rw [hl]
      by_cases ha : s.data.toList.all isD = true
      · rw [if_pos ha]
        have hr := fold_range s.data.toList 0 (by omega) (by omega)
        obtain ⟨v, hv⟩ : ∃ v, foldN 0 s.data.toList = v := ⟨_, rfl⟩
        rw [hv] at hr ⊢
        obtain ⟨u, rfl⟩ := Int.eq_ofNat_of_zero_le hr.1
        have hu : u < 18446744073709551616 := by omega
        rw [l1Num_val u _ hu (by omega)]
        simp only [Option.bind_some]
        rw [bytes_list, bytes_list]
        by_cases hq : Lib.decDigits u = s.data.toList
        · rw [if_pos (by rw [List.toList_toArray]; exact hq), ← hq, read_yes u hu]
        · rw [if_neg (by rw [List.toList_toArray]; exact hq), read_no]
          intro u' hu' he
          apply hq
          have e3 := fold_dec u' hu'
          rw [he, hv] at e3
          have e4 : u = u' := by omega
          rw [e4]; exact he
      · rw [if_neg ha, read_no]
        intro u' hu' he
        apply ha
        rw [← he]
        exact dec_digits u'
    · rw [if_neg (by simp only [decide_eq_true_eq]; exact h2), hno (by omega)]
  · rw [if_neg h1, hno (by omega)]
    rfl
end Go.Proofs.YtkafeohhljdohaaDoor.Pure

namespace Go.Proofs.YtkafeohhljdohaaDoor
open Go.ChangeShapes Go.WideShapes Go.ChangeAt Go.RowKit
open Go.ChangeMaps (open_string shut_string)
theorem own : ownKnob Tryd.prog.godebug = none := by kernel_rfl
theorem gP : Tryd.prog.globalNamed "internal/strconv.uint64pow10" = some 0 := by kernel_rfl
theorem g32 : Tryd.prog.globalNamed "math/bits.deBruijn32tab" = some 3 := by kernel_rfl
theorem g64 : Tryd.prog.globalNamed "math/bits.deBruijn64tab" = some 4 := by kernel_rfl
theorem gPT : (Tryd.prog.globals[0]?).map (·.type) = some 50 := by kernel_rfl
def t32 : List Int := [0, 1, 28, 2, 29, 14, 24, 3, 30, 22, 20, 15, 25, 17, 4, 8, 31, 27, 13, 23, 21, 19, 16, 7, 26, 12, 18, 6, 11, 5, 10, 9]
def t64 : List Int := [0, 1, 56, 2, 57, 49, 28, 3, 61, 58, 42, 50, 38, 29, 17, 4, 62, 47, 59, 36, 45, 43, 51, 22, 53, 39, 33, 30, 24, 18, 12, 5, 63, 55, 48, 27, 60, 41, 37, 16, 46, 35, 44, 21, 52, 32, 23, 11, 54, 26, 40, 15, 34, 20, 31, 10, 25, 14, 19, 9, 13, 8, 7, 6]
/-- So many blocks has the settled world. -/
noncomputable def low : Nat := (World.holding Tryd.prog default ⟨#[], #[], []⟩).heap.size
abbrev synS : ByteArray := { data := #[105, 110, 118, 97, 108, 105, 100, 32, 115, 121, 110, 116, 97, 120] }
abbrev rngS : ByteArray := { data := #[118, 97, 108, 117, 101, 32, 111, 117, 116, 32, 111, 102, 32, 114, 97, 110, 103, 101] }
/-- The settled world with the three tables and the two sentinels as their initialisers lay them. -/
noncomputable def laidWorld (os : Os) : World :=
  let w0 := World.holding Tryd.prog os ⟨#[.cells #[.string synS] 63, .cells #[.string rngS] 63], #[], []⟩
  let put (h : Array Obj) (g : Nat) (cs : Array Value) : Array Obj := h.modify g fun
    | .cells _ t frozen => .cells cs t frozen
    | o => o
  { w0 with heap := put (put (put (put (put w0.heap 3 (t32.map fun z => Value.int .u8 z).toArray) 4 (t64.map fun z => Value.int .u8 z).toArray) 0 (Lib.pow10Tab.map fun z => Value.int .u64 z).toArray) 1 #[.iface 61 (.pointer (some ⟨low, 0, none⟩))]) 2 #[.iface 61 (.pointer (some ⟨low + 1, 0, none⟩))] }
theorem laid_met (os : Os) (args : Array Value) : laidMet Tryd.prog Rows.fnExactReadNumRow.laid ((laidWorld os).forCall (fun _ _ => 0) ⟨#[], args, []⟩).memory :=
  laidMet_of_run3 10 (by kernel_rfl) (by kernel_rfl) (by kernel_rfl)
theorem tab_of {W : World} (h : laidMet Tryd.prog Rows.fnExactReadNumRow.laid W) : Lib.TabIs Tryd.prog W "internal/strconv.uint64pow10" .u64 Lib.pow10Tab :=
  Lib.tabIs_of_head (rest := [("strconv.ErrRange", Rows.laid_strconv_ErrRange), ("strconv.ErrSyntax", Rows.laid_strconv_ErrSyntax)]) (n := 20) (e := 22) gP gPT (by kernel_rfl) (by kernel_rfl) (by kernel_rfl) (by kernel_rfl) (laidMet.tail (laidMet.tail h))
theorem gES : Tryd.prog.globalNamed "strconv.ErrSyntax" = some 1 := by kernel_rfl
theorem gER : Tryd.prog.globalNamed "strconv.ErrRange" = some 2 := by kernel_rfl
theorem star : "*" ++ "errors.errorString" = "*errors.errorString" := by decide
theorem row61 (u : TypeId) (h : Tryd.prog.typeName? 3 u = some "*errors.errorString") : u = 61 :=
  typeName_ptr_named (nm := "errors.errorString") (by rw [star]; kernel_rfl) (by kernel_rfl) (by decide) u (by rw [star]; exact h)
theorem range_of {W : World} (h : laidMet Tryd.prog Rows.fnExactReadNumRow.laid W) : ∃ tp p, W.cell? ⟨2, 0, none⟩ = some (.iface tp p) := by
  obtain ⟨a0, s0, hv0, -, -, -⟩ := laid_sentinel (ti := 31) (tp := 61) (te := 63) (ts := 9) (laidMet.tail (laidMet.tail (laidMet.tail h))) gER (by kernel_rfl) Tryd.underlying31 row61 Tryd.underlying61 Tryd.underlying63 rfl rfl Tryd.underlying9 (by kernel_rfl) (by kernel_rfl)
  exact ⟨_, _, by have h0 := World.var?_cell gER hv0 0; simpa using h0⟩
theorem syntax_of {W : World} (h : laidMet Tryd.prog Rows.fnExactReadNumRow.laid W) : ∃ tp p, W.cell? ⟨1, 0, none⟩ = some (.iface tp p) := by
  obtain ⟨a0, s0, hv0, -, -, -⟩ := laid_sentinel (ti := 31) (tp := 61) (te := 63) (ts := 9) (laidMet.tail (laidMet.tail (laidMet.tail (laidMet.tail h)))) gES (by kernel_rfl) Tryd.underlying31 row61 Tryd.underlying61 Tryd.underlying63 rfl rfl Tryd.underlying9 (by kernel_rfl) (by kernel_rfl)
  exact ⟨_, _, by have h0 := World.var?_cell gES hv0 0; simpa using h0⟩
theorem cell_lt {W : World} {g : Nat} {v : Value} (h : W.cell? ⟨g, 0, none⟩ = some v) : g < W.heap.size := by
  rcases Nat.lt_or_ge g W.heap.size with h' | h'
  · exact h'
  · unfold World.cell? at h
    rw [Array.getElem?_eq_none h'] at h
    cases h
set_option maxRecDepth 100000 in
theorem lifted (os : Os) (started : os.Started) (H : Type) (enc : TypeId × Value → H) :
    ReturnsInHanded {} Tryd.checked os 4 .any (fun w args => (Rows.fnExactReadNumSpec.pre enc Tryd.prog Tryd.f4 Rows.fnExactReadNumRow.domain false w args ∧ laidMet Tryd.prog Rows.fnExactReadNumRow.laid w) ∧ sizedMet enc Tryd.prog Tryd.f4 (OpenSpec.ofChange Rows.fnExactReadNumSpec) false w args)
      (Rows.fnExactReadNumSpec.post enc Tryd.prog Tryd.f4 false true false false) := by
  refine returnsInHanded_of_change_and (C := Tryd.checked) (X := fun w _ => laidMet Tryd.prog Rows.fnExactReadNumRow.laid w) (fun _ _ _ hh h => h.of_heap hh) own started (by kernel_rfl) Tryd.func4
    (ChangeSpec.witness_at (enc := enc) (C := Tryd.checked) (os := os) (X := fun w _ => laidMet Tryd.prog Rows.fnExactReadNumRow.laid w) false (laidWorld os) #[.string ⟨#[]⟩] 8 rfl (by kernel_rfl) (by kernel_rfl) (by kernel_rfl) (by kernel_rfl) (by kernel_rfl) (laid_met os _)) ?_
  intro W base args ds gs before hval0 hW _ hsz0 hL _
  have hsz : (DataW.weightsEach Tryd.prog (Tryd.f4.params.toList ++ Rows.fnExactReadNumSpec.plain.varTypes Tryd.prog) (ds ++ gs)).all (· ≤ reachBytes) = true := hsz0
  clear hsz0
  have hval : ∀ (j : Nat) t v, Tryd.f4.params[j]? = some t → args[j]? = some v → Value.okWide Tryd.prog W .any base t v := hval0
  have hW' := hW
  obtain ⟨p, q, hA0, hV, rfl, _, _⟩ := hW
  have hA : DataW.TrodAll enc Tryd.prog W 0 (fun _ => true) true Tryd.f4.params.toList args.toList ds p := hA0
  rw [Tryd.params4] at hA hval hsz
  obtain ⟨v0, d0, rfl, rfl, h0⟩ := trodAll_one hA
  obtain ⟨rfl, rfl⟩ := trodVars_none hV
  obtain ⟨s, rfl, rfl, rfl, hs⟩ := open_string Tryd.underlying9 (hval 0 9 v0 rfl rfl) h0
  clear hA0 hval0
  simp only [List.append_nil] at hW'
  have hlim : s.size ≤ 281474976710656 := by
    have h1 := sized_string hsz (j := 0) (t := 9) rfl rfl
    have h2 := reachBytes_lt
    have e1 : s.size = s.data.size := rfl
    have e2 : s.data.toList.length = s.data.size := Array.length_toList
    have e3 : (2 : Nat) ^ 47 = 140737488355328 := by decide
    omega
  obtain ⟨t1, p1, hv1⟩ := syntax_of hL
  obtain ⟨t2, p2, hv2⟩ := range_of hL
  refine (X.readNum_law s _ hlim _ _ W (tab_of hL) hv1 (Or.inr ⟨_, _, rfl⟩) hv2 (Or.inr ⟨_, _, rfl⟩) (cell_lt hv2) (fun _ => Pure.readNum_val s _ rfl)).mono fun e W' ⟨he, hnx⟩ => ?_
  subst he
  refine ⟨_, rfl, _, _, _, [], [], [], hW', ?_, ?_, rfl, hnx.frame _, fun h => by cases h⟩
  · exact trodAll_mk1 (shut_bool (by kernel_rfl) true)
  · exact trodAll_mk1 (shut_string Tryd.underlying9 hs)
theorem f_holds : Rows.FnExactReadNumSaid :=
  OpenClaim.holds_of_wide 4 Tryd.f4 rfl rfl rfl rfl rfl rfl rfl ⟨rfl, rfl, rfl, rfl, rfl⟩ rfl rfl rfl rfl rfl (by kernel_rfl) Tryd.func4 (by kernel_rfl)
    (of_decide_eq_true (by kernel_rfl)) (by unfold Func.isWrapper; first | (rw [if_pos (by decide +kernel)]; kernel_rfl) | (rw [if_neg (by decide +kernel)]; exact ⟨rfl, rfl⟩))
    (fun os started H enc _ => lifted os started H enc)

end Go.Proofs.YtkafeohhljdohaaDoor

namespace Go.Proofs.YtkafeohhljdohaaDoor
theorem card_holds : Rows.FnExactReadNumCardSaid :=
  Claim7.holds_tied_plain_at .later [] [.data, .data, .data, .sentinel, .sentinel] true (true, "d02da1f7073364ccc8fa565bb76a00df0e76ae9c77ac6f0b545e6194a37b8981") true
    f_holds (fun _ h => by cases h) (by kernel_rfl) (fun _ h => by cases h) fnExactReadNum_row_tie rfl ⟨rfl, rfl⟩ (by kernel_rfl) rfl
    (fun f fn hf hfn => by
      obtain rfl : f = 4 := Option.some.inj ((show Tryd.prog.funcNamed "loop.example/g00649/laws.FnExactReadNum" = some 4 by kernel_rfl).symm.trans hf) |>.symm
      obtain rfl : fn = Tryd.f4 := (Option.some.inj (Tryd.func4.symm.trans hfn)).symm
      exact ⟨by kernel_rfl, fun j t ht => by
        rw [Tryd.params4] at ht
        have h3 : t = 9 := by
          rcases j with _ | j
          · simpa using ht.symm
          · simp at ht
        subst h3
        exact (show Tryd.prog.wantsStandIn 9 = false by kernel_rfl)⟩)
    (by kernel_rfl)

end Go.Proofs.YtkafeohhljdohaaDoor
