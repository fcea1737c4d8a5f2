/- Go functions as Lean functions, each with the proof that its call comes to just its answer. Conditions: the arguments are of their kinds. -/
import Derived.Test.YtgdmdaalmoioeaaGreatX0
import Derived.Test.YtgdmdaalmoioeaaGreatX1
import Derived.Test.YtgdmdaalmoioeaaGreatX20
import Derived.StillTailTactics
import Derived.Deep.QuietTactic
import Derived.BigQuiet
namespace Go.Proofs.YtgdmdaalmoioeaaGreat.X
open Go.RowKit Go.Proofs.YtgdmdaalmoioeaaGreatW.PrintWords Go.Proofs.YtgdmdaalmoioeaaGreatW.PrintLast Go.Proofs.YtgdmdaalmoioeaaGreatW.PrintMore
attribute [local go_sem] max2_int min2_int max_two min_two max_three min_three max_four min_four
set_option linter.unusedVariables false
set_option linter.unusedSimpArgs false
set_option maxHeartbeats 8000000
set_option maxRecDepth 100000
def fkA (s : List Int) : Nat → Nat → Nat
 | 0, i => i
 | d + 1, i => if rd s (i : Int) = 0 then i else fkA s d (i + 1)
def trF : Nat → Int → List (List Int) → Int → Int → List Int → Option (Int × List Bool × Int)
 | 0, _, _, _, _, _ => none
 | k + 1, n, L, b, m, s => if (s.length : Int) = n + 1 ∧ 0 ≤ n ∧ n ≤ 1000000 then
   (spec_l6Force.f k n L s).bind fun r => if r.1 = true then some (2, [], m) else
    if fkA r.2 n.toNat 1 = r.2.length then some (1, (r.2.drop 1).map (fun y => y == 1), m) else
    if m = b then some (3, [], m) else
    (trF k n L b (wrap64 (m + 1)) (r.2.set (fkA r.2 n.toNat 1) (-1))).bind fun q => if q.1 = 2 then trF k n L b q.2.2 (r.2.set (fkA r.2 n.toNat 1) 1) else some q
  else none
theorem Kd.R_nil_len {α : Type} {d : Kd α} {e : Nat} {w : World} {base : Nat} {ok : Nat → Prop} {xs : List α} (h : Kd.R d e w base ok (.slice none 0 0) xs) : xs = [] := by
 have hl := (Kd.R_reads' h).1;exact List.eq_nil_of_length_eq_zero hl.symm
theorem below_step' {w0 w w1 : World} (h : Below w0.heap.size w0 w) (k : Below w.heap.size w w1) : Below w0.heap.size w0 w1 := below_then h h.size k
theorem Kd.own_lt {α : Type} {d : Kd α} {e : Nat} {w : World} {base : Nat} {ok : Nat → Prop} {v : Value} {xs : List α} (h : Kd.R d e w base ok v xs) (k : Nat) (hk : v.ownBlock = some k) : k < w.heap.size := by
 obtain ⟨cells, hc⟩ := Kd.R_typed h k hk;exact blk_lt hc
theorem own_self (s : List Int) (h : s.length ≤ 1000001) : spec_l1Own.f s = some s := by
 unfold spec_l1Own.f;rw [Option.bind_some, List.nil_append, if_pos (by rw [List.length_nil]; omega)]
def TrOut (w0 W : World) (G : Nat) (n : Int) (A0 : Option Addr) (c0 ll : Nat) (b m code : Int) (vals : List Bool) : Prop :=
 ∃ v, W.heap[G]? = some (.cells #[.int .i64 n, .slice A0 ll c0, .int .i64 b, .int .i64 m, v] 71 (0, 0)) ∧ Kd.R Kd.bool 4 W w0.heap.size (fun _ => True) v vals ∧ (code ≠ 1 → v = .slice none 0 0)
theorem TrOut.nil {w0 W : World} {G : Nat} {n : Int} {A0 : Option Addr} {c0 ll : Nat} {b m code : Int} (h : W.heap[G]? = some (.cells #[.int .i64 n, .slice A0 ll c0, .int .i64 b, .int .i64 m, .slice none 0 0] 71 (0, 0))) : TrOut w0 W G n A0 c0 ll b m code [] :=
 ⟨_, h, Kd.R_nil _ _ _ _ _, fun _ => rfl⟩
theorem trCalls (k : Nat) : ∀ (G : Nat) (n : Int) (A0 : Option Addr) (c0 : Nat) (L : List (List Int)) (b m : Int) (u : Value) (s : List Int) (code : Int) (vals : List Bool) (m' : Int) (w0 w : World), Below w0.heap.size w0 w →
  w.heap[G]? = some (.cells #[.int .i64 n, .slice A0 L.length c0, .int .i64 b, .int .i64 m, .slice none 0 0] 71 (0, 0)) → w0.heap.size ≤ G → Kd.C (Kd.slice 3 (Kd.int .i64)) w0 A0 L.length L → L.length ≤ c0 → Kd.R (Kd.int .i64) 3 w w0.heap.size (fun _ => True) u s →
  trF k n L b m s = some (code, vals, m') →
  Calls Tryz.prog 34 #[.pointer (some ⟨G, 0, none⟩), u] w fun e w' => e = .returned (.int .i64 code) ∧ TrOut w0 w' G n A0 c0 L.length b m' code vals ∧ Below w0.heap.size w0 w' ∧ Kept w w' (fun k => k = G ∨ some k = u.ownBlock) := by
 induction k with
 | zero => intro G n A0 c0 L b m u s code vals m' w0 w hB hG hge hL hc ho h; simp [trF] at h
 | succ k ih =>
  intro G n A0 c0 L b m u s code vals m' w0 w hB hG hge hL hc ho h;rw [trF] at h;split at h;case isFalse => cases h
  rename_i hn
  obtain ⟨hn0, hn1, hn2⟩ := hn;obtain ⟨⟨b1, s1⟩, hf, h⟩ := Option.bind_eq_some_iff.mp h;have hw0 : w0.heap.size ≤ w.heap.size := hB.size;have hu27 := Tryz.underlying47;have hu71 := Tryz.underlying71;obtain ⟨Au, cu, rfl⟩ := Kd.R_slice ho;have HB := qa hB;have HG := qa hG;have HL := qa hL;have HC0 := qa hc;have HO := qa ho;have AF := qa hf;have hcz0 : w.cell? ⟨G, 0, none⟩ = some (.int .i64 n) := (blk_cell hG 0).trans rfl;have hcz1 : w.cell? ⟨G, 1, none⟩ = some (.slice A0 L.length c0) := (blk_cell hG 1).trans rfl;clear hB hG hL hc ho hf;cases b1 with
  | true =>
   rw [if_pos rfl] at h;simp only [Option.some.injEq, Prod.mk.injEq] at h;obtain ⟨rfl, rfl, rfl⟩ := h;go_enter Tryz.func34, Tryz.ntmps34
   go_wp2_with ((go_at_call 59; (with_reducible refine (spec_l6Force.calls k n _ _ L (fun k_ => some k_ = (.slice Au s.length cu : Value).ownBlock) (.slice Au s.length cu) s true s1 w0 _ HB.out ?side2 HC0.out (Kd.R_tight rfl HO.out) AF.out).mono ?_); (case side2 => exact Kd.C_kept_came (Kd.heap_slice 3 (Kd.heap_int .i64)) HL.out HB.out (fun k_ hs_ => Kd.R_base HO.out k_ hs_.symm)); rintro e w2 ⟨rfl, hy0, hb, hkp⟩; have n0_ := qa (blk_kept HG.out hkp (fun hs_ => Kd.R_ne HO.out HG.out (by decide) hs_)); have n1_ := qa hb; have n2_ := qa hkp; clear HB HG; have HG := n0_; have HB := n1_; have HK := n2_; clear n0_ n1_ n2_ hb hkp hy0))
   go_ret
   exact ⟨rfl, TrOut.nil HG.out, HB.out, HK.out.mono fun _ hk => .inr hk⟩
  | false =>
   dsimp only at h;rw [if_neg (by decide)] at h;obtain ⟨T, hT⟩ : ∃ T, fkA s1 n.toNat 1 = T := ⟨_, rfl⟩;rw [hT] at h;have HH := qa h;clear h;go_enter Tryz.func34, Tryz.ntmps34
   go_wp2_with ((go_at_call 59; (with_reducible refine (spec_l6Force.calls k n _ _ L (fun k_ => some k_ = (.slice Au s.length cu : Value).ownBlock) (.slice Au s.length cu) s false s1 w0 _ HB.out ?side2 HC0.out (Kd.R_tight rfl HO.out) AF.out).mono ?_); (case side2 => exact Kd.C_kept_came (Kd.heap_slice 3 (Kd.heap_int .i64)) HL.out HB.out (fun k_ hs_ => Kd.R_base HO.out k_ hs_.symm)); rintro e w2 ⟨rfl, hy0, hb, hkp⟩; have n0_ := qa (blk_kept HG.out hkp (fun hs_ => Kd.R_ne HO.out HG.out (by decide) hs_)); have n1_ := qa hb; have n2_ := qa hkp; have n3_ := qa (Kd.R_mono hy0 (fun _ _ => trivial)); clear HB HG HO; have HG := n0_; have HB := n1_; have HK := n2_; have HO := n3_; clear n0_ n1_ n2_ n3_ hb hkp hy0; have hcw0 : w2.cell? ⟨G, 0, none⟩ = some (.int .i64 n) := (blk_cell HG.out 0).trans rfl; have hcw2 : w2.cell? ⟨G, 2, none⟩ = some (.int .i64 b) := (blk_cell HG.out 2).trans rfl; have hcw3 : w2.cell? ⟨G, 3, none⟩ = some (.int .i64 m) := (blk_cell HG.out 3).trans rfl; have hcw4 : w2.cell? ⟨G, 4, none⟩ = some (.slice none 0 0) := (blk_cell HG.out 4).trans rfl))
   obtain ⟨hls, hcl, hCs⟩ := Kd.R_reads' HO.out;have HCS := qa hCs;clear hCs;go_loop [5] (fun v5 => ∃ kk : Nat, 1 ≤ kk ∧ kk ≤ s1.length ∧ v5 = .int .i64 (kk : Int) ∧ Aside0 (fkA s1 (s1.length - kk) kk = T)) (fun v5 => s1.length - (intOf v5).toNat)
   case atStart => exact ⟨1, Nat.le_refl _, by omega, rfl, ⟨by rw [show s1.length - 1 = n.toNat by omega]; exact hT⟩⟩
   case round =>
    obtain ⟨kk, hk1, hk2, rfl, HF⟩ := hrel;by_cases hlt : kk < s1.length
    ·obtain ⟨ad, e0, hx⟩ := Kd.at_int HCS.out (kk : Int) (by omega) (by omega);subst e0;rw [Int.toNat_natCast] at hx;obtain ⟨d, hd⟩ : ∃ d, s1.length - kk = d + 1 := ⟨s1.length - kk - 1, by omega⟩;have hF := HF.out;rw [hd, fkA] at hF;have hle : decide ((kk : Int) ≤ n) = true := decide_eq_true (by omega);have p6 : ((0 : Int) ≤ (kk : Int)) = True := eq_true (by omega);have q6 : ((kk : Int) < (s.length : Int)) = True := eq_true (by omega);by_cases h0 : rd s1 (kk : Int) = 0
     ·rw [if_pos h0] at hF;subst hF;have hgt : decide ((kk : Int) > n) = false := decide_eq_false (by omega);have hne : (rd s1 (kk : Int) != 0) = false := (by rw [h0]; rfl);have hH := HH.out;rw [if_neg (by omega)] at hH;by_cases hmb : m = b
      ·rw [if_pos hmb] at hH;simp only [Option.some.injEq, Prod.mk.injEq] at hH;obtain ⟨rfl, rfl, rfl⟩ := hH;have hmb1 : (m == b) = true := beq_iff_eq.mpr hmb;go_wp2
       go_quiet (fail)
       go_wp2
       go_ret
       exact ⟨rfl, TrOut.nil HG.out, pw_below_drewN HB.out _, (HK.out.mono fun _ hk => .inr hk).drewN _⟩
      ·rw [if_neg hmb] at hH;have hmb1 : (m == b) = false := beq_eq_false_iff_ne.mpr hmb;obtain ⟨⟨q1, q2, q3⟩, hq, hH⟩ := Option.bind_eq_some_iff.mp hH;have HQ := qa hq;have HH2 := qa hH;clear hq hH;have hfz3 := blk_frozen HG.out 3;go_wp2
       go_quiet (fail)
       go_wp2
       have hown : spec_l1Own.f s1 = some s1 := own_self s1 (by omega);have HOWN := qa hown;have HSZ : Aside0 (((w2.drewN nq).setCell ⟨G, 3, none⟩ (.int .i64 (wrap64 (m + 1)))).heap.size = w2.heap.size) := ⟨by simp [World.setCell, World.drewN]⟩;have HX0 := qa (blk_new ((w2.drewN nq).setCell ⟨G, 3, none⟩ (.int .i64 (wrap64 (m + 1)))) (.cells #[.int .i64 (-1), .int .i64 1] 3 (0, 0)));have HX1 := qa (HSZ.out ▸ HX0.out);have HG1 := qa (blk_alloc (by simpa using blk_set (blk_drewN HG.out nq) 3 (.int .i64 (wrap64 (m + 1)))) (.cells #[.int .i64 (-1), .int .i64 1] 3 (0, 0)));have HS1 := qa (Kd.R_alloc (Kd.R_set (Kd.R_drewN HO.out nq) (blk_drewN HG.out nq) (by decide) 3 (.int .i64 (wrap64 (m + 1)))) (.cells #[.int .i64 (-1), .int .i64 1] 3 (0, 0)));have HB1 := qa (below_alloc (below_set (j := 3) (v := .int .i64 (wrap64 (m + 1))) (pw_below_drewN HB.out nq) hge) (.cells #[.int .i64 (-1), .int .i64 1] 3 (0, 0)));have HK1 := qa ((((HK.out.mono (S' := fun k => k = G ∨ some k = (Value.slice (some ad) s.length cu).ownBlock) fun _ hk => .inr hk).drewN nq).setCell (p := ⟨G, 3, none⟩) (.inl (.inl rfl)) (.int .i64 (wrap64 (m + 1)))).alloc (.cells #[.int .i64 (-1), .int .i64 1] 3 (0, 0)));clear hown;go_loopw [78] (fun v78 w' => ∃ (j : Nat) (mm : Int), j ≤ 2 ∧ v78 = .int .i64 (j : Int) ∧ Aside0 ((j = 0 ∧ mm = wrap64 (m + 1)) ∨ (j = 1 ∧ q1 = 2 ∧ mm = q3) ∨ (j = 2 ∧ code = 2 ∧ vals = [] ∧ mm = m')) ∧ Aside0 (w'.heap[G]? = some (.cells #[.int .i64 n, .slice A0 L.length c0, .int .i64 b, .int .i64 mm, .slice none 0 0] 71 (0, 0))) ∧ Aside0 (w'.heap[w2.heap.size]? = some (.cells #[.int .i64 (-1), .int .i64 1] 3 (0, 0))) ∧ Aside0 (Kd.R (Kd.int .i64) 3 w' w0.heap.size (fun _ => True) (.slice (some ad) s1.length cu) s1) ∧ Aside0 (Below w0.heap.size w0 w') ∧ Aside0 (Kept w w' (fun k => k = G ∨ some k = (Value.slice (some ad) s.length cu).ownBlock))) (fun v78 _ => 2 - (intOf v78).toNat)
       case atStart => exact ⟨0, wrap64 (m + 1), Nat.zero_le _, rfl, ⟨.inl ⟨rfl, rfl⟩⟩, HG1, HX1, ⟨hls ▸ HS1.out⟩, HB1, HK1⟩
       case round =>
        clear HG HB HO HCS HK hcw0 hcw2 hcw3 hcw4 hx hfz3 HX0 HX1 HG1 HS1 HB1 HK1;obtain ⟨j, mm, hj2, rfl, HJ, HG, HX, HS, HB, HK⟩ := hrel;by_cases hjl : j < 2
        ·obtain ⟨sg, hsg⟩ : ∃ sg : Int, sg = if j = 0 then -1 else 1 := ⟨_, rfl⟩
         have hx : wr.cell? ⟨w2.heap.size, j, none⟩ = some (.int .i64 sg) := by
          rw [blk_cell HX.out j, hsg];obtain rfl | rfl : j = 0 ∨ j = 1 := by omega
          ·rfl
          ·rfl
         obtain ⟨c1, v1, m1, htr, hnx⟩ : ∃ c1 v1 m1, trF k n L b mm (s1.set kk sg) = some (c1, v1, m1) ∧ (c1 ≠ 2 → code = c1 ∧ vals = v1 ∧ m' = m1) ∧ (c1 = 2 → (j = 0 ∧ q1 = 2 ∧ m1 = q3) ∨ (j = 1 ∧ code = 2 ∧ (vals = v1) ∧ m1 = m')) := by
          rcases HJ.out with ⟨rfl, rfl⟩ | ⟨rfl, rfl, rfl⟩ | ⟨rfl, _⟩
          ·refine ⟨q1, q2, q3, by rw [hsg, if_pos rfl]; exact HQ.out, fun hc => ?_, fun hc => .inl ⟨rfl, hc, rfl⟩⟩;have h2 := HH2.out;rw [if_neg hc] at h2;simp only [Option.some.injEq, Prod.mk.injEq] at h2;exact ⟨h2.1.symm, h2.2.1.symm, h2.2.2.symm⟩
          ·refine ⟨code, vals, m', ?_, fun _ => ⟨rfl, rfl, rfl⟩, fun hc => .inr ⟨rfl, hc, rfl, rfl⟩⟩;have h2 := HH2.out;rw [if_pos rfl] at h2;rw [hsg, if_neg (by omega)];exact h2
          ·omega
         have HNX := qa hnx;have HTR := qa htr;clear hnx htr hsg;have p6 : ((0 : Int) ≤ (j : Int)) = True := eq_true (by omega);have q6 : ((j : Int) < ((2 : Nat) : Int)) = True := eq_true (by omega);have q62 : ((j : Int) < (2 : Int)) = True := eq_true (by omega);have hd6 : decide ((j : Int) < (2 : Int)) = true := decide_eq_true (by omega);by_cases hc2 : c1 = 2
         ·have hne2 : (c1 != 2) = false := (by rw [hc2]; rfl);go_wp2_with (first | (go_at_call 60; (with_reducible refine (spec_l1Own.calls (some ad) cu s1 s1 _ ?side1 ?side2 HOWN.out).mono ?_); (case side1 => exact (Kd.R_reads' HS.out).2.2); (case side2 => exact (Kd.R_reads' HS.out).2.1); rintro e w4 ⟨vn, rfl, ho, hb⟩; obtain ⟨go, co, rfl, hgb, hgl, cl, hgo⟩ := Kd.R_form ho (by omega); have n0_ := qa (blk_below HG.out hb); have n1_ := qa (blk_below HX.out hb); have n2_ := qa (Kd.R_below HS.out hb); have n3_ := qa (below_step' HB.out hb); have n4_ := qa (HK.out.below hb); have HGX := qa (show go ≠ G ∧ go ≠ w2.heap.size ∧ w.heap.size ≤ go ∧ w0.heap.size ≤ go ∧ (∀ k, (Value.slice (some ad) s1.length cu).ownBlock = some k → k ≠ go) from ⟨by have := blk_lt HG.out; omega, by have := blk_lt HX.out; omega, by have := HK.out.1; omega, by have := HK.out.1; omega, fun k hk => by have := Kd.own_lt HS.out k hk; omega⟩); obtain ⟨hxn, hfn⟩ := Kd.R_celln 0 ho (kk : Int) (by omega) (by omega); have hpn := (Kd.R_putg ho (kk : Int) sg); rw [Int.toNat_natCast] at hxn hfn hpn; have HPN := qa hpn.1; have HWR := qa HB.out.size; have HGN := qa hpn.2; clear HG HX HS HB HK hb hpn hgb hgl hgo ho; have HG := n0_; have HX := n1_; have HS := n2_; have HB := n3_; have HK := n4_; clear n0_ n1_ n2_ n3_ n4_) | (go_at_call 34; (refine (ih G n A0 c0 L b mm (.slice (some ⟨go, 0, none⟩) s1.length co) (s1.set kk sg) c1 v1 m1 w0 _ ?sB ?sG hge HL.out HC0.out ?sR HTR.out).mono ?_); (case sB => exact below_set HB.out HGX.out.2.2.2.1); (case sG => exact blk_far HG.out (Ne.symm HGX.out.1) _); (case sR => exact Kd.R_lower HPN.out HWR.out); rintro e w6 ⟨rfl, hto, hb, hkp⟩; have n0_ := qa hto; have n1_ := qa (blk_kept (blk_far HX.out (p := ⟨go, kk, none⟩) (Ne.symm HGX.out.2.1) (.int .i64 sg)) hkp (by rintro (h1 | h1); exact blk_ne HX.out HG.out (by decide) h1; exact HGX.out.2.1 (Option.some.inj h1).symm)); have n2_ := qa (Kd.R_mono (Kd.R_kept (Kd.R_far (Kd.R_tight rfl HS.out) (p := ⟨go, kk, none⟩) (fun k hk => HGX.out.2.2.2.2 k hk.symm) (.int .i64 sg)) hkp (fun k hk => by rintro (h1 | h1); exact Kd.R_ne HS.out HG.out (by decide) (h1 ▸ hk); exact HGX.out.2.2.2.2 k hk.symm (Option.some.inj h1))) (fun _ _ => trivial)); have n3_ := qa hb; have n4_ := qa ((HK.out.setCell (p := ⟨go, kk, none⟩) (.inr HGX.out.2.2.1) (.int .i64 sg)).then_ hkp (fun k hk => by rcases hk with h1 | h1; exact .inl (.inl h1); exact .inr ((Option.some.inj h1) ▸ HGX.out.2.2.1))); clear HG HX HS HB HK hb hkp hto HPN HGN hxn hfn; have HT := n0_; have HX := n1_; have HS := n2_; have HB := n3_; have HK := n4_; clear n0_ n1_ n2_ n3_ n4_))
          obtain ⟨v, hg6, hr6, hv6⟩ := HT.out;obtain rfl := hv6 (by omega);go_round;case rel => exact ⟨j + 1, m1, by omega, by go_num, ⟨by
           rcases HNX.out.2 hc2 with ⟨rfl, h2, h3⟩ | ⟨rfl, h2, h3, h4⟩
           ·exact .inr (.inl ⟨rfl, h2, h3⟩)
           ·exact .inr (.inr ⟨rfl, h2, by rw [h3]; exact Kd.R_nil_len hr6, h4⟩)⟩, ⟨hg6⟩, HX, HS, HB, HK⟩
          case measure => simp [intOf]; omega
         ·have hne2 : (c1 != 2) = true := bne_iff_ne.mpr hc2;go_wp2_with (first | (go_at_call 60; (with_reducible refine (spec_l1Own.calls (some ad) cu s1 s1 _ ?side1 ?side2 HOWN.out).mono ?_); (case side1 => exact (Kd.R_reads' HS.out).2.2); (case side2 => exact (Kd.R_reads' HS.out).2.1); rintro e w4 ⟨vn, rfl, ho, hb⟩; obtain ⟨go, co, rfl, hgb, hgl, cl, hgo⟩ := Kd.R_form ho (by omega); have n0_ := qa (blk_below HG.out hb); have n1_ := qa (blk_below HX.out hb); have n2_ := qa (Kd.R_below HS.out hb); have n3_ := qa (below_step' HB.out hb); have n4_ := qa (HK.out.below hb); have HGX := qa (show go ≠ G ∧ go ≠ w2.heap.size ∧ w.heap.size ≤ go ∧ w0.heap.size ≤ go ∧ (∀ k, (Value.slice (some ad) s1.length cu).ownBlock = some k → k ≠ go) from ⟨by have := blk_lt HG.out; omega, by have := blk_lt HX.out; omega, by have := HK.out.1; omega, by have := HK.out.1; omega, fun k hk => by have := Kd.own_lt HS.out k hk; omega⟩); obtain ⟨hxn, hfn⟩ := Kd.R_celln 0 ho (kk : Int) (by omega) (by omega); have hpn := (Kd.R_putg ho (kk : Int) sg); rw [Int.toNat_natCast] at hxn hfn hpn; have HPN := qa hpn.1; have HWR := qa HB.out.size; have HGN := qa hpn.2; clear HG HX HS HB HK hb hpn hgb hgl hgo ho; have HG := n0_; have HX := n1_; have HS := n2_; have HB := n3_; have HK := n4_; clear n0_ n1_ n2_ n3_ n4_) | (go_at_call 34; (refine (ih G n A0 c0 L b mm (.slice (some ⟨go, 0, none⟩) s1.length co) (s1.set kk sg) c1 v1 m1 w0 _ ?sB ?sG hge HL.out HC0.out ?sR HTR.out).mono ?_); (case sB => exact below_set HB.out HGX.out.2.2.2.1); (case sG => exact blk_far HG.out (Ne.symm HGX.out.1) _); (case sR => exact Kd.R_lower HPN.out HWR.out); rintro e w6 ⟨rfl, hto, hb, hkp⟩; have n0_ := qa hto; have n1_ := qa (blk_kept (blk_far HX.out (p := ⟨go, kk, none⟩) (Ne.symm HGX.out.2.1) (.int .i64 sg)) hkp (by rintro (h1 | h1); exact blk_ne HX.out HG.out (by decide) h1; exact HGX.out.2.1 (Option.some.inj h1).symm)); have n2_ := qa (Kd.R_mono (Kd.R_kept (Kd.R_far (Kd.R_tight rfl HS.out) (p := ⟨go, kk, none⟩) (fun k hk => HGX.out.2.2.2.2 k hk.symm) (.int .i64 sg)) hkp (fun k hk => by rintro (h1 | h1); exact Kd.R_ne HS.out HG.out (by decide) (h1 ▸ hk); exact HGX.out.2.2.2.2 k hk.symm (Option.some.inj h1))) (fun _ _ => trivial)); have n3_ := qa hb; have n4_ := qa ((HK.out.setCell (p := ⟨go, kk, none⟩) (.inr HGX.out.2.2.1) (.int .i64 sg)).then_ hkp (fun k hk => by rcases hk with h1 | h1; exact .inl (.inl h1); exact .inr ((Option.some.inj h1) ▸ HGX.out.2.2.1))); clear HG HX HS HB HK hb hkp hto HPN HGN hxn hfn; have HT := n0_; have HX := n1_; have HS := n2_; have HB := n3_; have HK := n4_; clear n0_ n1_ n2_ n3_ n4_))
          go_ret
          obtain ⟨rfl, rfl, rfl⟩ := HNX.out.1 hc2;exact ⟨rfl, HT.out, HB.out, HK.out⟩
        ·have e2 : j = 2 := (by omega);have hd6 : decide ((j : Int) < (2 : Int)) = false := decide_eq_false (by omega);obtain ⟨hc, hv, hm⟩ : code = 2 ∧ vals = [] ∧ mm = m' := by
          rcases HJ.out with ⟨h1, _⟩ | ⟨h1, _⟩ | ⟨_, h1⟩
          ·omega
          ·omega
          ·exact h1
         subst hc hv hm;go_wp2
         go_ret
         exact ⟨rfl, TrOut.nil HG.out, HB.out, HK.out⟩
     ·rw [if_neg h0] at hF;have hne : (rd s1 (kk : Int) != 0) = true := bne_iff_ne.mpr h0;have hne2 : ¬ rd s1 (kk : Int) = 0 := h0;go_wp2
      go_round;case rel => exact ⟨kk + 1, by omega, by omega, by go_num, ⟨by rw [show s1.length - (kk + 1) = d by omega]; exact hF⟩⟩
      case measure => simp [intOf]; omega
    ·have hF := HF.out;rw [show s1.length - kk = 0 by omega, fkA] at hF;subst hF;have hH := HH.out;rw [if_pos (by omega)] at hH;simp only [Option.some.injEq, Prod.mk.injEq] at hH;obtain ⟨rfl, rfl, rfl⟩ := hH;have hle : decide ((kk : Int) ≤ n) = false := decide_eq_false (by omega);have hgt : decide ((kk : Int) > n) = true := decide_eq_true (by omega);have hq17 : (1 : Int) ≤ ((s1.length : Nat) : Int) := (by omega);obtain ⟨i017, hi017, _, hsz17, _⟩ := info_parts info3;have hcut17 := cut_from (P := Tryz.prog) 35 3 .i64 Tryz.underlying35 hi017 1 hsz17 Au s1.length cu 1 (by omega) hq17;obtain ⟨A17, hA17⟩ : ∃ A_, A_ = (if cu = (1 : Int).toNat then Au else (Au : Option Addr).map (·.add ((1 : Int).toNat * 1))) := ⟨_, rfl⟩;obtain ⟨c17, hc17⟩ : ∃ c_, c_ = cu - (1 : Int).toNat := ⟨_, rfl⟩;obtain ⟨tl, htl⟩ : ∃ tl, tl = s1.drop 1 := ⟨_, rfl⟩;have hy17 : tl.length = s1.length - (1 : Int).toNat := (by rw [htl, List.length_drop]; rfl);rw [← hy17, ← hA17, ← hc17] at hcut17;replace hq17 := eq_true hq17;have HA17 := qa hA17;have HY17 := qa hy17;have HTL := qa htl;have hsz0 : w.heap.size ≤ w2.heap.size := HK.out.1;clear hA17 hc17 hi017 hsz17 hy17 htl;go_wp2
     go_loopw [44] (fun v44 w' => ∃ (j : Nat) (acc : List Bool) (va : Value), j ≤ tl.length ∧ v44 = .int .i64 (j : Int) ∧ Aside0 (acc = (tl.take j).map (fun y => y == 1)) ∧ Aside0 (w'.heap[G]? = some (.cells #[.int .i64 n, .slice A0 L.length c0, .int .i64 b, .int .i64 m, va] 71 (0, 0))) ∧ Aside0 (Kd.R Kd.bool 4 w' w.heap.size (fun _ => True) va acc) ∧ Aside0 (Kd.R (Kd.int .i64) 3 w' w0.heap.size (fun _ => True) (.slice Au s1.length cu) s1) ∧ Aside0 (Below w0.heap.size w0 w') ∧ Aside0 (Kept w w' (fun k => k = G ∨ some k = (Value.slice Au s.length cu).ownBlock))) (fun v44 _ => tl.length - (intOf v44).toNat)
     case atStart => exact ⟨0, [], .slice none 0 0, Nat.zero_le _, rfl, ⟨rfl⟩, HG, ⟨Kd.R_nil _ _ _ _ _⟩, ⟨hls ▸ HO.out⟩, HB, ⟨HK.out.mono fun _ hk => .inr hk⟩⟩
     case round =>
      obtain ⟨j, acc, va, hj, rfl, HAC, HG2, HV, HS, HB2, HK2⟩ := hrel;by_cases hjl : j < tl.length
      ·have hr17 : Kd.C (Kd.int .i64) wr A17 tl.length tl := by
        have hr := Kd.C_drop (m := (1 : Int).toNat) (c := cu) (Kd.R_reads' HS.out).2.2 (by omega) (Kd.R_reads' HS.out).2.1;rw [show s1.drop (1 : Int).toNat = tl from HTL.out.symm] at hr;rw [HA17.out];exact hr
       obtain ⟨ad, e0, hx⟩ := Kd.at_int hr17 (j : Int) (by omega) (by omega);subst e0;rw [Int.toNat_natCast] at hx;obtain ⟨y, hy⟩ : ∃ y, rd tl (j : Int) = y := ⟨_, rfl⟩;rw [hy] at hx;have p6 : ((0 : Int) ≤ (j : Int)) = True := eq_true (by omega);have q6 : ((j : Int) < (tl.length : Int)) = True := eq_true (by omega);have hd6 : decide ((j : Int) < (tl.length : Int)) = true := decide_eq_true (by omega);have hcz4 : wr.cell? ⟨G, 4, none⟩ = some va := (blk_cell HG2.out 4).trans rfl;have hal : acc.length ≤ 1000001 := (by have := HY17.out; rw [HAC.out, List.length_map, List.length_take]; omega);have HY := qa hy;have hyj : y = tl[j] := (by rw [← HY.out]; unfold rd; rw [Int.toNat_natCast, List.getD_eq_getElem?_getD, List.getElem?_eq_getElem hjl]; rfl);have htl1 : tl.length ≤ 1000001 := (by have := HY17.out; omega);have HW1 : Aside0 (wrap64 ((j : Int) + 1) = ((j + 1 : Nat) : Int)) := ⟨by unfold wrap64; omega⟩;obtain ⟨acc2, hacc2⟩ : ∃ a2 : List Bool, a2 = acc ++ [y == 1] := ⟨_, rfl⟩;have HA2 := qa hacc2;clear hacc2;have hacc3 : acc2 = (tl.take (j + 1)).map (fun y => y == 1) := (by rw [HA2.out, HAC.out, List.take_add_one, List.getElem?_eq_getElem hjl, Option.toList_some, List.map_append, hyj]; rfl);have HA3 := qa hacc3;clear hacc3 hyj;clear hr17 hy;go_wp2_with (first | ((with_reducible refine gate_builtin (b := .append) (xs := #[.tmp 52, .tmp 55]) rfl ?_); at_builtin; refine Kd.R_append Kd.bool w.heap.size rfl (.tmp 52) (.tmp 55) 42 4 (.bool false) 1 rfl Tryz.underlying42 info4 rfl (by decide) (by omega) va acc (y == 1) [.bool (y == 1)] (fun _ => True) (fun _ => False) rfl rfl ?aP (fun _ hk => hk.elim) ?aF ?aO (Below.refl _ _) ?aS ?aL ?_; (case aP => exact rfl); (case aF => exact (fun _ _ => trivial)); (case aO => exact HV.out); (case aS => exact HK2.out.1); (case aL => omega); intro v1 w3 ho hb hg hat; rw [← HA2.out] at ho; obtain ⟨A3, c3, rfl⟩ := Kd.R_slice ho; have HG3 := qa (blk_grown HG2.out hg (Kd.R_ne HV.out HG2.out (by decide))); have HV3 := qa ho; have HS3 := qa (Kd.R_mono (Kd.R_grown (Kd.R_apart' HS.out (Kd.R_typed HV.out) (by decide)) hg (fun _ hk => hk.2)) (fun _ _ => trivial)); have HB3 := qa (below_weaken HB2.out hw0 hb); have HK3 := qa (Kept.of_grown hg HK2.out (fun k hk => .inr (Kd.R_base HV.out k hk))); clear ho hb hg hat; have hcz4b : w3.cell? ⟨G, 4, none⟩ = some va := (blk_cell HG3.out 4).trans rfl; have hfz4 := blk_frozen HG3.out 4))
       go_round;case rel => exact ⟨j + 1, acc2, .slice A3 acc2.length c3, by omega, by first | exact congrArg (Value.int .i64) HW1.out | go_num, HA3, ⟨by simpa using blk_set HG3.out 4 (.slice A3 acc2.length c3)⟩, ⟨Kd.R_set HV3.out HG3.out (by decide) 4 _⟩, ⟨Kd.R_set HS3.out HG3.out (by decide) 4 _⟩, ⟨below_set HB3.out hge⟩, ⟨HK3.out.setCell (.inl (.inl rfl)) _⟩⟩
       case measure => simp [intOf]; omega
      ·obtain rfl : j = tl.length := (by omega);have hac := HAC.out;rw [List.take_length] at hac;go_wp2
       go_ret
       refine ⟨rfl, ⟨va, HG2.out, ?_, fun e => absurd rfl e⟩, HB2.out, HK2.out⟩;rw [← HTL.out, ← hac];exact Kd.R_lower HV.out hw0
theorem trF.mono : ∀ k n L b m s, LeO (trF k n L b m s) (trF (k + 1) n L b m s) := by
 intro k;induction k with
 | zero => intro n L b m s; exact fun _ hx => by simp [trF] at hx
 | succ k ih =>
  intro n L b m s;rw [trF, trF];refine LeO.ite (LeO.bind (spec_l6Force.mono _ _ _ _) fun r => LeO.ite (LeO.refl _) (LeO.ite (LeO.refl _) (LeO.ite (LeO.refl _) (LeO.bind (ih _ _ _ _ _) fun q => LeO.ite (ih _ _ _ _ _) (LeO.refl _))))) (LeO.refl _)
def spec_Solve.f (k : Nat) (n : Int) (L : List (List Int)) (b : Int) : Option (Int × List Bool × Int × Bool) :=
 (spec_GoodCnf.f k n L).bind fun g => if g = true then (spec_l1In.f b 0 300).bind fun q => if q = true then (trF k n L b 0 (List.replicate (n + 1).toNat 0)).bind fun t => some (t.1, t.2.1, t.2.2, true) else some (0, [], 0, false) else some (0, [], 0, false)
theorem spec_Solve.mono : ∀ a0 a1 a2 k, LeO (spec_Solve.f k a0 a1 a2) (spec_Solve.f (k + 1) a0 a1 a2) := by
 intro a0 a1 a2 k;unfold spec_Solve.f;refine LeO.bind (spec_GoodCnf.mono _ _ _) fun _ => LeO.ite (LeO.bind (LeO.refl _) fun _ => LeO.ite (LeO.bind ?_ fun _ => LeO.refl _) (LeO.refl _)) (LeO.refl _);exact trF.mono _ _ _ _ _ _
theorem spec_Solve.calls (k : Nat) (a0_0 : Int) (A0_1 : Option Addr) (c0_1 : Nat) (l0_1 : List (List Int)) (a1 : Int) (r1 : Int) (r2 : List Bool) (r3 : Int) (r4 : Bool) (w : World) (hr0_1 : Kd.C (Kd.slice 3 (Kd.int .i64)) w A0_1 l0_1.length l0_1) (hc0_1 : l0_1.length ≤ c0_1) (h : spec_Solve.f k a0_0 l0_1 a1 = some (r1, r2, r3, r4)) :
  Calls Tryz.prog 16 #[.agg #[.int .i64 a0_0, .slice A0_1 l0_1.length c0_1], .int .i64 a1] w fun e w' => ∃ v0_ : Value, e = .returned (.tuple #[.int .i64 r1, v0_, .int .i64 r3, .bool r4]) ∧ Kd.R Kd.bool 4 w' w.heap.size (fun _ => True) v0_ r2 ∧ Below w.heap.size w w' := by
 have hu27 := Tryz.underlying47;have hu71 := Tryz.underlying71;have HR0_1 := qa hr0_1;have HC0_1 := qa hc0_1;clear hr0_1 hc0_1;have HB := qa (Below.refl w.heap.size w);unfold spec_Solve.f at h;obtain ⟨g, hg0, h⟩ := Option.bind_eq_some_iff.mp h;have A3 := qa hg0;clear hg0;cases g with
 | false =>
  rw [if_neg (by decide)] at h;simp only [Option.some.injEq, Prod.mk.injEq] at h;obtain ⟨rfl, rfl, rfl, rfl⟩ := h;go_enter Tryz.func16, Tryz.ntmps16
  go_wp2_with (first | ((with_reducible refine gate_dst (N := 2) rfl ?_); refine box_event rfl (N := 2) rfl (cs := #[.int .i64 a0_0, .slice A0_1 l0_1.length c0_1]) (t := 47) qW ?_; intro gb hg w5 hbox hb; have n0_ := qa (below_step HB.out hb); have n1_ := qa hbox; clear HB; have HB := n0_; have BK := n1_; clear n0_ n1_; clear hb hbox hg; have hcz6 := blk_cell BK.out) | (go_at_call 33; (with_reducible refine (spec_GoodCnf.calls k a0_0 _ _ l0_1 false _ ?side1 ?side2 A3.out).mono ?_); (case side1 => exact Kd.C_below HR0_1.out HB.out); (case side2 => exact HC0_1.out); rintro e w7 ⟨rfl, hb⟩; have n1_ := qa (below_step HB.out hb); clear HB; have HB := n1_; clear n1_; clear hb))
  (try simp only [Exit.inBlock, Exit.then])
  refine bodyPost_ret (results_list (rs := [.tmp 4, .tmp 5, .tmp 6, .tmp 7]) rfl (by simp) (.tmp (.tmp (.tmp (.tmp .nil))))) rfl ?_;exact ⟨.slice none 0 0, rfl, Kd.R_nil _ _ _ _ _, HB.out⟩
 | true =>
  rw [if_pos rfl] at h;obtain ⟨q, hq0, h⟩ := Option.bind_eq_some_iff.mp h;have A4 := qa hq0;clear hq0;cases q with
  | false =>
   rw [if_neg (by decide)] at h;simp only [Option.some.injEq, Prod.mk.injEq] at h;obtain ⟨rfl, rfl, rfl, rfl⟩ := h;go_enter Tryz.func16, Tryz.ntmps16
   go_wp2_with (first | ((with_reducible refine gate_dst (N := 2) rfl ?_); refine box_event rfl (N := 2) rfl (cs := #[.int .i64 a0_0, .slice A0_1 l0_1.length c0_1]) (t := 47) qW ?_; intro gb hg w5 hbox hb; have n0_ := qa (below_step HB.out hb); have n1_ := qa hbox; clear HB; have HB := n0_; have BK := n1_; clear n0_ n1_; clear hb hbox hg; have hcz6 := blk_cell BK.out) | (go_at_call 33; (with_reducible refine (spec_GoodCnf.calls k a0_0 _ _ l0_1 true _ ?side1 ?side2 A3.out).mono ?_); (case side1 => exact Kd.C_below HR0_1.out HB.out); (case side2 => exact HC0_1.out); rintro e w7 ⟨rfl, hb⟩; have n1_ := qa (below_step HB.out hb); clear HB; have HB := n1_; clear n1_; clear hb) | (go_at_call 15; (with_reducible refine (spec_l1In.calls a1 0 300 false _ A4.out).mono ?_); rintro e w8 ⟨rfl, ⟨nd, rfl⟩⟩; have n1_ := qa (pw_below_drewN HB.out nd); clear HB; have HB := n1_; clear n1_))
   (try simp only [Exit.inBlock, Exit.then])
   refine bodyPost_ret (results_list (rs := [.tmp 4, .tmp 5, .tmp 6, .tmp 7]) rfl (by simp) (.tmp (.tmp (.tmp (.tmp .nil))))) rfl ?_;exact ⟨.slice none 0 0, rfl, Kd.R_nil _ _ _ _ _, HB.out⟩
  | true =>
   rw [if_pos rfl] at h;obtain ⟨⟨t1, t2, t3⟩, ht0, h⟩ := Option.bind_eq_some_iff.mp h;have hnn : 0 ≤ a0_0 ∧ a0_0 ≤ 1000000 := by
    cases k with
    | zero => simp [trF] at ht0
    | succ k => rw [trF] at ht0; split at ht0; rename_i hh; exact ⟨hh.2.1, hh.2.2⟩; cases ht0
   have A5 := qa ht0;clear ht0;simp only [Option.some.injEq, Prod.mk.injEq] at h;obtain ⟨rfl, rfl, rfl, rfl⟩ := h;have hw1 : wrap64 (a0_0 + 1) = a0_0 + 1 := (by unfold wrap64; omega);have hj1 : IntKind.i64.wrap (a0_0 + 1) = a0_0 + 1 := (i64_w _).trans hw1;have hp1 : (0 ≤ a0_0 + 1) = True := eq_true (by omega);have hp2 : decide (0 ≤ a0_0 + 1) = true := decide_eq_true (by omega);have hp3 : ((a0_0 + 1).toNat ≤ 35184372088832) = True := eq_true (by omega);have hp4 : decide ((a0_0 + 1).toNat ≤ 35184372088832) = true := decide_eq_true (by omega);have hp5 : (a0_0 + 1).toNat ≤ 35184372088832 := (by omega);have hp6 : 0 ≤ a0_0 + 1 := (by omega);go_enter Tryz.func16, Tryz.ntmps16
   go_wp2_with (first | ((with_reducible refine gate_dst (N := 2) rfl ?_); refine box_event rfl (N := 2) rfl (cs := #[.int .i64 a0_0, .slice A0_1 l0_1.length c0_1]) (t := 47) qW ?_; intro gb hg w5 hbox hb; have n0_ := qa (below_step HB.out hb); have n1_ := qa hbox; clear HB; have HB := n0_; have BK := n1_; clear n0_ n1_; clear hb hbox hg; have hcz6 := blk_cell BK.out) | (go_at_call 33; (with_reducible refine (spec_GoodCnf.calls k a0_0 _ _ l0_1 true _ ?side1 ?side2 A3.out).mono ?_); (case side1 => exact Kd.C_below HR0_1.out HB.out); (case side2 => exact HC0_1.out); rintro e w7 ⟨rfl, hb⟩; have n0_ := qa (blk_below (g := gb) (o := .cells #[.int .i64 a0_0, .slice A0_1 l0_1.length c0_1] 47 (0, 0)) BK.out hb); have n1_ := qa (below_step HB.out hb); clear HB BK; have BK := n0_; have HB := n1_; clear n0_ n1_; clear hb; have hcz7 := blk_cell BK.out) | (go_at_call 15; (with_reducible refine (spec_l1In.calls a1 0 300 true _ A4.out).mono ?_); rintro e w8 ⟨rfl, ⟨nd, rfl⟩⟩; have n1_ := qa (pw_below_drewN HB.out nd); clear HB; have HB := n1_; clear n1_) | ((with_reducible refine gate_dst (N := 21) rfl ?_); refine box_event rfl (N := 21) rfl (cs := #[.int .i64 a0_0, .slice A0_1 l0_1.length c0_1, .int .i64 a1, .int .i64 0, .slice none 0 0]) (t := 71) qW ?_; intro gs hg w9 hbox hb; have n0_ := qa (below_step HB.out hb); have n1_ := qa hbox; have n2_ := qa (show w.heap.size ≤ gs by rw [hg]; exact below_size HB.out); have n3_ := qa (blk_below (g := gb) (o := .cells #[.int .i64 a0_0, .slice A0_1 l0_1.length c0_1] 47 (0, 0)) (blk_drewN BK.out _) hb); clear HB BK; have HB := n0_; have HG := n1_; have HGE := n2_; have BK := n3_; clear n0_ n1_ n2_ n3_; clear hb hbox hg; have hcz9 := blk_cell BK.out) | ((with_reducible refine gate_dst (N := 26) rfl ?_); (try (refine gate_guard (by rfl) ?_; dsimp only)); refine Kd.R_make (Kd.int .i64) _ 3 rfl (N := 26) rfl 35 _ _ rfl (a0_0 + 1) rfl rfl Tryz.underlying35 (.int .i64 0) 8 info3 rfl (by decide) (by omega) 0 (ok := fun _ => True) (okp := fun _ => True) rfl (fun _ hk => hk) trivial hp6 (Nat.le_trans (Nat.mul_le_mul_right _ hp5) (by omega)) (Below.refl _ _) (Nat.le_refl _) ?_; intro vz w10 hoz hb hg_ hnew_; clear hg_ hnew_; have n0_ := qa (blk_below HG.out hb); have n1_ := qa (Kd.R_lower hoz (below_size HB.out)); have n2_ := qa (below_step HB.out hb); clear HG HB; have HG := n0_; have HZ := n1_; have HB := n2_; clear n0_ n1_ n2_ hb hoz) | (go_at_call 34; (refine (trCalls k gs a0_0 A0_1 c0_1 l0_1 a1 0 vz _ t1 t2 t3 w _ HB.out HG.out HGE.out HR0_1.out HC0_1.out HZ.out A5.out).mono ?_); rintro e w11 ⟨rfl, ⟨v, hgv, hrv, _⟩, hb, hk⟩; have n0_ := qa hgv; have n1_ := qa hrv; have n2_ := qa hb; have hcs_3 : w11.cell? ⟨gs, 3, none⟩ = some (.int .i64 t3) := (blk_cell hgv 3).trans rfl; have hcs_4 : w11.cell? ⟨gs, 4, none⟩ = some v := (blk_cell hgv 4).trans rfl; clear HG HB HZ hgv hrv hb hk; have HG := n0_; have HO := n1_; have HB := n2_; clear n0_ n1_ n2_))
   go_quiet (fail)
   try go_wp2
   (try simp only [Exit.inBlock, Exit.then])
   refine bodyPost_ret (results_list (rs := [.tmp 4, .tmp 5, .tmp 6, .tmp 7]) rfl (by simp) (.tmp (.tmp (.tmp (.tmp .nil))))) rfl ?_;exact ⟨v, rfl, HO.out, pw_below_drewN HB.out _⟩
mutual
def spec_l6For.l0 : Nat → List Bool → List (S75) → Int → Int → Int → List (S75) → List Int → Int → List (List Int) → Option (Int × (List (List Int)))
 | 0, _, _, _, _, _, _, _, _, _ => none
 | k + 1, x1, x17, x18, x19, x187000, x187001, x187002, x190000, x190001 => if x19 < x18 then (if 0 ≤ x19 then (if x19 < (x17.length : Int) then (if ((rd_T75 x17 x19).f0) = 1 then (if x190001.length < 5864062014805 then (spec_l6For.l0 k x1 x17 x18 (wrap64 (x19 + 1)) x187000 x187001 x187002 x190000 (x190001 ++ [(([wrap64 ((wrap64 ((wrap64 (x187000 + x19)) + 1)) * (wrap64 ((wrap64 (2 * ((rd_T75 x17 x19).f1))) - 1)))] : List Int))])) else (none)) else (if ((rd_T75 x17 x19).f0) = 2 then ((some (([(([wrap64 ((wrap64 (x187000 + x19)) + 1), wrap64 (((rd_T75 x17 x19).f1) + 1)] : List Int)), (([wrap64 (-(wrap64 ((wrap64 (x187000 + x19)) + 1))), wrap64 (-(wrap64 (((rd_T75 x17 x19).f1) + 1)))] : List Int))] : List (List Int)) : List (List Int))).bind fun y204 => (if x190001.length + y204.length < 5864062014805 then (spec_l6For.l0 k x1 x17 x18 (wrap64 (x19 + 1)) x187000 x187001 x187002 x190000 (x190001 ++ y204)) else (none))) else (if ((rd_T75 x17 x19).f0) = 3 then ((some (([(([wrap64 (-(wrap64 ((wrap64 (x187000 + x19)) + 1))), wrap64 (((rd_T75 x17 x19).f1) + 1)] : List Int)), (([wrap64 (-(wrap64 ((wrap64 (x187000 + x19)) + 1))), wrap64 (((rd_T75 x17 x19).f2) + 1)] : List Int)), (([wrap64 ((wrap64 (x187000 + x19)) + 1), wrap64 (-(wrap64 (((rd_T75 x17 x19).f1) + 1))), wrap64 (-(wrap64 (((rd_T75 x17 x19).f2) + 1)))] : List Int))] : List (List Int)) : List (List Int))).bind fun y219 => (if x190001.length + y219.length < 5864062014805 then (spec_l6For.l0 k x1 x17 x18 (wrap64 (x19 + 1)) x187000 x187001 x187002 x190000 (x190001 ++ y219)) else (none))) else (if ((rd_T75 x17 x19).f0) = 4 then ((some (([(([wrap64 ((wrap64 (x187000 + x19)) + 1), wrap64 (-(wrap64 (((rd_T75 x17 x19).f1) + 1)))] : List Int)), (([wrap64 ((wrap64 (x187000 + x19)) + 1), wrap64 (-(wrap64 (((rd_T75 x17 x19).f2) + 1)))] : List Int)), (([wrap64 (-(wrap64 ((wrap64 (x187000 + x19)) + 1))), wrap64 (((rd_T75 x17 x19).f1) + 1), wrap64 (((rd_T75 x17 x19).f2) + 1)] : List Int))] : List (List Int)) : List (List Int))).bind fun y234 => (if x190001.length + y234.length < 5864062014805 then (spec_l6For.l0 k x1 x17 x18 (wrap64 (x19 + 1)) x187000 x187001 x187002 x190000 (x190001 ++ y234)) else (none))) else (if ((rd_T75 x17 x19).f0) = 5 then ((some (([(([wrap64 (-(wrap64 ((wrap64 (x187000 + x19)) + 1))), wrap64 (((rd_T75 x17 x19).f1) + 1), wrap64 (((rd_T75 x17 x19).f2) + 1)] : List Int)), (([wrap64 (-(wrap64 ((wrap64 (x187000 + x19)) + 1))), wrap64 (-(wrap64 (((rd_T75 x17 x19).f1) + 1))), wrap64 (-(wrap64 (((rd_T75 x17 x19).f2) + 1)))] : List Int)), (([wrap64 ((wrap64 (x187000 + x19)) + 1), wrap64 (-(wrap64 (((rd_T75 x17 x19).f1) + 1))), wrap64 (((rd_T75 x17 x19).f2) + 1)] : List Int)), (([wrap64 ((wrap64 (x187000 + x19)) + 1), wrap64 (((rd_T75 x17 x19).f1) + 1), wrap64 (-(wrap64 (((rd_T75 x17 x19).f2) + 1)))] : List Int))] : List (List Int)) : List (List Int))).bind fun y252 => (if x190001.length + y252.length < 5864062014805 then (spec_l6For.l0 k x1 x17 x18 (wrap64 (x19 + 1)) x187000 x187001 x187002 x190000 (x190001 ++ y252)) else (none))) else (spec_l6For.l0 k x1 x17 x18 (wrap64 (x19 + 1)) x187000 x187001 x187002 x190000 x190001)))))) else (none)) else (none)) else (spec_l6For.l1 k x1 x187002 (x187002.length : Int) 0 x190000 x190001)
def spec_l6For.l1 : Nat → List Bool → List Int → Int → Int → Int → List (List Int) → Option (Int × (List (List Int)))
 | 0, _, _, _, _, _, _ => none
 | k + 1, x1, x138, x139, x140, x190000, x190001 => if x140 < x139 then (if 0 ≤ x140 then (if x140 < (x138.length : Int) then (if x140 < (x1.length : Int) then (if rdOf false x1 x140 = true then (if x190001.length < 5864062014805 then (spec_l6For.l1 k x1 x138 x139 (wrap64 (x140 + 1)) x190000 (x190001 ++ [(([wrap64 ((rd x138 x140) + 1)] : List Int))])) else (none)) else (if x190001.length < 5864062014805 then (spec_l6For.l1 k x1 x138 x139 (wrap64 (x140 + 1)) x190000 (x190001 ++ [(([wrap64 ((wrap64 (-(rd x138 x140))) - 1)] : List Int))])) else (none))) else (none)) else (none)) else (none)) else (some (x190000, x190001))
end
def spec_l6For.f (k : Nat) (a0_0 : Int) (l0_1 : List (S75)) (l0_2 : List Int) (l1 : List Bool) : Option (Int × (List (List Int))) := (spec_l4Wires.f a0_0 l0_1 l0_2).bind fun t188 => (spec_l6For.l0 k l1 l0_1 (l0_1.length : Int) 0 a0_0 l0_1 l0_2 t188 ([] : List (List Int)))
theorem spec_l6For.mono_l : ∀ k, (∀ y0 y1 y2 y3 y4 y5 y6 y7 y8, LeO (spec_l6For.l0 k y0 y1 y2 y3 y4 y5 y6 y7 y8) (spec_l6For.l0 (k + 1) y0 y1 y2 y3 y4 y5 y6 y7 y8)) ∧ (∀ y0 y1 y2 y3 y4 y5, LeO (spec_l6For.l1 k y0 y1 y2 y3 y4 y5) (spec_l6For.l1 (k + 1) y0 y1 y2 y3 y4 y5))
 | 0 => ⟨fun _ _ _ _ _ _ _ _ _ r h => by simp [spec_l6For.l0] at h, fun _ _ _ _ _ _ r h => by simp [spec_l6For.l1] at h⟩
 | k + 1 => by
  obtain ⟨ih0, ih1⟩ := spec_l6For.mono_l k;refine ⟨?_, ?_⟩
  ·intros;unfold spec_l6For.l0;exact qM
  ·intros;unfold spec_l6For.l1;exact qM
theorem spec_l6For.mono : ∀ a0 a1 a2 a3 k, LeO (spec_l6For.f k a0 a1 a2 a3) (spec_l6For.f (k + 1) a0 a1 a2 a3) := by
 intro a0 a1 a2 a3 k;obtain ⟨ih0, ih1⟩ := spec_l6For.mono_l k;unfold spec_l6For.f;exact qM
theorem l6_cut {β : Type} {xs ys : List (List Int)} {r : β} (F : List (List Int) → Option β) (H : (if xs.length + ys.length < 5864062014805 then F (xs ++ ys) else none) = some r) : ∃ z, z = ys ∧ xs.length + z.length ≤ 5864062014805 ∧ Aside0 (F (xs ++ z) = some r) := by
 split at H
 ·exact ⟨ys, rfl, by omega, ⟨H⟩⟩
 ·cases H
theorem l6_cut1 {β : Type} {xs : List (List Int)} {y : List Int} {r : β} (F : List (List Int) → Option β) (H : (if xs.length < 5864062014805 then F (xs ++ [y]) else none) = some r) : ∃ z, z = [y] ∧ xs.length + z.length ≤ 5864062014805 ∧ Aside0 (F (xs ++ z) = some r) := by
 split at H
 ·exact ⟨[y], rfl, by simp; omega, ⟨H⟩⟩
 ·cases H
open Kd in
theorem l6_append {P : Program} {ops : Array Oper} {rest : List Oper} {o : Oper} {a : Act} {Q : Exit → Act → World → Prop} {w0 wr Wb W : World} {n : Nat} {v : Value} {xs ys : List (List Int)} {ok : Nat → Prop} (hgd : o.guard = none) (s x : Operand)
  (ho : o.op = .call { callee := .builtin .append, args := #[s, x], argTypes := #[45, 45] }) (ht : P.underlying 45 = some (.slice 35)) (hinfo : (P.info? 35).map (fun i => (i.zero, i.size, i.bytes)) = some (some (.slice none 0 0), 1, 24))
  (hs : a.eval s = v) (hx : a.eval x = .slice (some ⟨lastAt n ys, 0, none⟩) ys.length ys.length) (hW : W = (allocInts Wb ys).alloc (.cells (slotsAt n ys).toArray 35)) (hn : Wb.heap.size = n)
  (HO : Kd.N (Kd.slice 3 (Kd.int .i64)) 35 wr w0.heap.size ok v xs) (hb1 : Below wr.heap.size wr Wb) (hf : ∀ k, wr.heap.size ≤ k → ok k) (HB : Below w0.heap.size w0 wr) (hl : xs.length + ys.length ≤ 5864062014805) (hy : ∀ y ∈ ys, y.length ≤ 9) (hyl : ys.length ≤ 99)
  (h : ∀ A c w1, Kd.N (Kd.slice 3 (Kd.int .i64)) 35 w1 w0.heap.size ok (.slice A (xs ++ ys).length c) (xs ++ ys) → Below w0.heap.size w0 w1 → (∀ (g : Nat) (cells : Array Value) (t : TypeId), wr.heap[g]? = some (Obj.cells cells t (0, 0)) → 35 ≠ t → w1.heap[g]? = some (Obj.cells cells t (0, 0))) → wpList P ops Q rest (a.put o.dst (.slice A (xs ++ ys).length c)) w1) :
  wpList P ops Q (o :: rest) a W := by
 subst hn;obtain ⟨hN, hB2⟩ := N_newrows (w0 := Wb) (Below.refl _ _) ys rfl hy hyl;rw [← hW] at hN hB2;have hB3 := below_step hb1 hB2;have hB4 := below_step HB hB3;refine Kd.N_append_rows (Kd.slice 3 (Kd.int .i64)) (w0 := w0) w0.heap.size hgd s x 45 35 (.slice none 0 0) 24 ho ht hinfo rfl (by decide) (by omega) v xs ys _ _ _ ok (fun k => Wb.heap.size ≤ k) hs hx (N_below HO hB3) (N_F hN) (fun k (hk : Wb.heap.size ≤ k) => ⟨hf k (Nat.le_trans hb1.size hk), fun he => ?_⟩) (fun k hk => hf k (Nat.le_trans hB3.size hk)) hB4 hB4.size (by omega) ?_
 ·have := N_lt HO k he.symm;have := hb1.size;omega
 ·intro v1 w1 ho1 hb hg hat;obtain ⟨A, c, rfl⟩ := N_slice ho1;exact h A c w1 ho1 hb fun g cells t hc ht => (hg.block g (Nat.lt_of_lt_of_le (blk_lt hc) hB3.size) (N_ne HO hc ht)).trans (blk_below hc hB3)
theorem spec_l6For.calls (k : Nat) (a0_0 : Int) (A0_1 : Option Addr) (c0_1 : Nat) (l0_1 : List (S75)) (A0_2 : Option Addr) (c0_2 : Nat) (l0_2 : List Int) (A1 : Option Addr) (c1 : Nat) (l1 : List Bool) (r1 : Int) (r2 : List (List Int)) (w : World) (hr0_1 : Kd.C k75 w A0_1 l0_1.length l0_1) (hc0_1 : l0_1.length ≤ c0_1) (hr0_2 : Kd.C (Kd.int .i64) w A0_2 l0_2.length l0_2) (hc0_2 : l0_2.length ≤ c0_2) (hr1 : Kd.C Kd.bool w A1 l1.length l1) (hc1 : l1.length ≤ c1) (h : spec_l6For.f k a0_0 l0_1 l0_2 l1 = some (r1, r2)) :
  Calls Tryz.prog 17 #[.agg #[.int .i64 a0_0, .slice A0_1 l0_1.length c0_1, .slice A0_2 l0_2.length c0_2], .slice A1 l1.length c1] w fun e w' => ∃ v1_ : Value, e = .returned (.agg #[.int .i64 r1, v1_]) ∧ Kd.N (Kd.slice 3 (Kd.int .i64)) 35 w' w.heap.size (fun k_ => (w.heap.size ≤ k_)) v1_ r2 ∧ Below w.heap.size w w' := by
 have hu37 := Tryz.underlying37;have hu47 := Tryz.underlying47;have hu75 := Tryz.underlying75;have HR0_1 := qa hr0_1;have HC0_1 := qa hc0_1;clear hr0_1 hc0_1;have HR0_2 := qa hr0_2;have HC0_2 := qa hc0_2;clear hr0_2 hc0_2;have HR1 := qa hr1;have HC1 := qa hc1;clear hr1 hc1;have HB := qa (Below.refl w.heap.size w);have H := h;unfold spec_l6For.f at H;clear h;replace H := Option.bind_eq_some_iff.mp H;obtain ⟨t188, A30, H⟩ := H;try dsimp only at H
 have A3 := qa A30;clear A30;have H' := qa H;clear H;go_enter Tryz.func17, Tryz.ntmps17
 go_wp2_with (first | ((with_reducible refine gate_dst (N := 2) rfl ?_); refine box_event rfl (N := 2) rfl (cs := #[.int .i64 a0_0, .slice A0_1 l0_1.length c0_1, .slice A0_2 l0_2.length c0_2]) (t := 37) qW ?_; intro gb186 hg w4 hbox hb; have BK186 := qa (hbox); have GW186 := qg w hg; replace HB := qa (below_step (qB) hb); clear hb hbox hg) | ((with_reducible refine gate_dst (N := 4) rfl ?_); refine box_event rfl (N := 4) rfl (cs := #[.int .i64 0, .slice none 0 0]) (t := 47) qW ?_; intro gb187 hg w5 hbox hb; have BK187 := qa (hbox); have GW187 := qg w hg; replace HB := qa (below_step (qB) hb); have NB186_187 := qnl hg (qK BK186.out); have NB187_186 := qng hg (qK BK186.out); replace BK186 := qa (blk_below (qK BK186.out) hb); clear hb hbox hg; have hnb6 := NB186_187.out; have hnc6 := NB187_186.out; have hcz7 := blk_cell BK186.out; have hfz7 := blk_frozen BK186.out) | (go_at_call 35; (with_reducible refine (spec_l4Wires.calls a0_0 _ _ l0_1 _ _ l0_2 t188 _ ?side1 ?side2 ?side3 ?side4 A3.out).mono ?_); (case side1 => exact qC (Kd.C_below HR0_1.out HB.out)); (case side2 => exact HC0_1.out); (case side3 => exact qC (Kd.C_below HR0_2.out HB.out)); (case side4 => exact HC0_2.out); rintro e w8 ⟨rfl, hb⟩; replace BK186 := qa (blk_below (qK BK186.out) hb); replace BK187 := qa (blk_below (qK BK187.out) hb); replace HB := qa (below_step (qB) hb); (try clear hb); (try clear hb2); (try clear hk); (try clear hi)) | ((with_reducible refine gate_dst (N := 5) rfl ?_); refine box_event rfl (N := 5) rfl (cs := #[.int .i64 0, .slice none 0 0]) (t := 47) qW ?_; intro gb189 hg w9 hbox hb; have BK189 := qa (hbox); have GW189 := qg w hg; replace HB := qa (below_step (qB) hb); have NB186_189 := qnl hg (qK BK186.out); have NB189_186 := qng hg (qK BK186.out); replace BK186 := qa (blk_below (qK BK186.out) hb); have NB187_189 := qnl hg (qK BK187.out); have NB189_187 := qng hg (qK BK187.out); replace BK187 := qa (blk_below (qK BK187.out) hb); clear hb hbox hg; have hnb10 := NB189_186.out; have hnc10 := NB186_189.out; have hnb11 := NB189_187.out; have hnc11 := NB187_189.out; have hcz12 := blk_cell BK189.out; have hfz12 := blk_frozen BK189.out; have hcz13 := blk_cell BK186.out; have hfz13 := blk_frozen BK186.out))
 go_loopg [19] k (fun kq v19 w' => ∃ (x19_1 : Int) (x190001_1 : List (List Int)) (u190001 : Value), v19 = .int .i64 x19_1 ∧ Aside0 (spec_l6For.l0 kq l1 l0_1 (l0_1.length : Int) x19_1 a0_0 l0_1 l0_2 t188 x190001_1 = some (r1, r2)) ∧ Aside0 (kq ≤ k) ∧ Aside0 (Kd.N (Kd.slice 3 (Kd.int .i64)) 35 w' w.heap.size (fun k_ => (w.heap.size ≤ k_) ∧ k_ ≠ gb186 ∧ k_ ≠ gb187 ∧ k_ ≠ gb189) u190001 x190001_1) ∧ Aside0 (w'.heap[gb186]? = some (.cells #[.int .i64 a0_0, (.slice A0_1 l0_1.length c0_1), (.slice A0_2 l0_2.length c0_2)] 37 (0, 0))) ∧ Aside0 (w'.heap[gb187]? = some (.cells #[.int .i64 0, (.slice none 0 0)] 47 (0, 0))) ∧ Aside0 (w'.heap[gb189]? = some (.cells #[.int .i64 t188, u190001] 47 (0, 0))) ∧ Aside0 (Below w.heap.size w w'))
 case atStart => exact ⟨(0), (([] : List (List Int))), (.slice none 0 0), qS, H', ⟨Nat.le_refl _⟩, ⟨by first | exact Kd.S_nil _ _ _ _ _ | exact Kd.N_nil _ _ _ _ _ | exact Kd.V_nil _ _ _ _ _ | exact Kd.Q_nil _ _ _ _ _ | exact Kd.R_nil _ _ _ _ _⟩, ⟨qF BK186.out⟩, ⟨qF BK187.out⟩, ⟨qP BK189.out⟩, ⟨qB⟩⟩
 case round =>
  clear H';obtain ⟨x19_1, x190001_1, u190001, rfl, HA, HK1, HO_190001, BK186, BK187, BK189, HB⟩ := hrel;cases gk with
  | zero => exact absurd HA.out (by simp [spec_l6For.l0])
  | succ k1 =>
   have H := HA.out;clear HA;simp only [spec_l6For.l0] at H;by_cases c14 : x19_1 < (l0_1.length : Int)
   ·rw [if_pos c14] at H;have c14b0 := decide_eq_true c14;clear c14;obtain ⟨c15, H⟩ := qI H;have c15b0 : decide (0 ≤ x19_1) = true := decide_eq_true c15;clear c15;obtain ⟨c16, H⟩ := qI H;have c16b0 : decide (x19_1 < (l0_1.length : Int)) = true := decide_eq_true c16;clear c16;have p190 : 0 ≤ (x19_1 : Int) := qD;have q190 : x19_1 < (l0_1.length : Int) := qD;obtain ⟨ad190, e190, hx190_0, hx190_1, hx190_2⟩ := at_T75 HR0_1.out x19_1 p190 q190;cases e190;replace hx190_0 := qx HB hx190_0;replace hx190_1 := qx HB hx190_1;replace hx190_2 := qx HB hx190_2;replace p190 := eq_true p190;replace q190 := eq_true q190;generalize hg75 : rd_T75 l0_1 x19_1 = gt at *;obtain ⟨kd, ga, gb⟩ := gt;have hcy0 := (blk_cell BK186.out 0).trans rfl;have hcy1 := (blk_cell BK186.out 1).trans rfl;have hcz0 : ∀ o, (wr.alloc o).cell? ⟨gb186, 0, none⟩ = some (.int .i64 a0_0) := fun o => (blk_cell (blk_alloc BK186.out o) 0).trans rfl;have hcz3 : ∀ o, (wr.alloc o).cell? ⟨gb189, 0, none⟩ = some (.int .i64 t188) := fun o => (blk_cell (blk_alloc BK189.out o) 0).trans rfl;have hcz4 : ∀ o, (wr.alloc o).cell? ⟨gb189, 1, none⟩ = some u190001 := fun o => (blk_cell (blk_alloc BK189.out o) 1).trans rfl;have HF : ∀ k, wr.heap.size ≤ k → w.heap.size ≤ k ∧ k ≠ gb186 ∧ k ≠ gb187 ∧ k ≠ gb189 := fun k hk => ⟨Nat.le_trans HB.out.size hk, Kd.freshB BK186.out k hk, Kd.freshB BK187.out k hk, Kd.freshB BK189.out k hk⟩;have hks : kd = 1 ∨ kd = 2 ∨ kd = 3 ∨ kd = 4 ∨ kd = 5 ∨ (kd ≠ 1 ∧ kd ≠ 2 ∧ kd ≠ 3 ∧ kd ≠ 4 ∧ kd ≠ 5) := (by omega);rcases hks with rfl | rfl | rfl | rfl | rfl | ⟨h1, h2, h3, h4, h5⟩
    case inr.inr.inr.inr.inr =>
     have d1 := beq_eq_false_iff_ne.mpr h1;have d2 := beq_eq_false_iff_ne.mpr h2;have d3 := beq_eq_false_iff_ne.mpr h3;have d4 := beq_eq_false_iff_ne.mpr h4;have d5 := beq_eq_false_iff_ne.mpr h5;rw [if_neg h1, if_neg h2, if_neg h3, if_neg h4, if_neg h5] at H;have H' := qa H;clear H;go_wp2
     go_roundg k1;case measure => have := HK1.out; omega
     case rel => exact ⟨_, _, _, qS, H', ⟨by have := HK1.out; omega⟩, ⟨Kd.N_alloc HO_190001.out _⟩, ⟨blk_alloc BK186.out _⟩, ⟨blk_alloc BK187.out _⟩, ⟨blk_alloc BK189.out _⟩, ⟨below_alloc HB.out _⟩⟩
    case' inl =>
     rw [if_pos rfl] at H;obtain ⟨ys, hys, hl, H'⟩ := l6_cut1 (spec_l6For.l0 k1 l1 l0_1 _ _ _ _ _ _) H
    case' inr.inl | inr.inr.inl | inr.inr.inr.inl | inr.inr.inr.inr.inl =>
     simp (decide := true) only [reduceIte, Option.bind_some] at H;obtain ⟨ys, hys, hl, H'⟩ := l6_cut (spec_l6For.l0 k1 l1 l0_1 _ _ _ _ _ _) H
    all_goals
     clear H;go_wp2_with ((with_reducible refine gate_builtin (b := .append) (xs := #[.tmp _, .tmp _]) rfl ?_); at_builtin; refine l6_append (w0 := w) (wr := wr) (Wb := wr.alloc _) (n := wr.heap.size + 1) (ys := ys) rfl _ _ rfl Tryz.underlying45 info35 rfl (by rw [hys]; rfl) (by rw [hys]; rfl) (by simp) HO_190001.out (below_alloc (Below.refl _ _) _) HF HB.out hl (by rw [hys]; simp) (by rw [hys]; simp) ?_; intro A c w1 ho hb hk; have b1 := hk _ _ _ BK186.out (by decide); have b2 := hk _ _ _ BK187.out (by decide); have b3 := hk _ _ _ BK189.out (by decide); have hcw0 := (blk_cell b3 0).trans rfl; have hcw1 := (blk_cell b3 1).trans rfl; have hfw0 := blk_frozen b3 0; have hfw1 := blk_frozen b3 1)
     go_roundg k1;case measure => have := HK1.out; omega
     case rel => exact ⟨_, _, _, qS, H', ⟨by have := HK1.out; omega⟩, ⟨Kd.N_far (p := ⟨gb189, 1, none⟩) ho (fun k hk => hk.2.2.2) _⟩, ⟨blk_far b1 NB186_189.out _⟩, ⟨blk_far b2 NB187_189.out _⟩, ⟨blk_put b3 1 _ (by simp [hys])⟩, ⟨below_set hb GW189.out⟩⟩
   ·rw [if_neg c14] at H;have c14b0 := decide_eq_false c14;clear c14;have H' := qa H;clear H;have hnb151 := NB186_187.out;have hnc151 := NB187_186.out;have hnb152 := NB186_189.out;have hnc152 := NB189_186.out;have hcz153 := blk_cell BK186.out;have hcz153_1 := blk_cell BK186.out 1;have hcz153_2 := blk_cell BK186.out 2;have hfz153 := blk_frozen BK186.out;have hfz153_1 := blk_frozen BK186.out 1;have hfz153_2 := blk_frozen BK186.out 2;go_wp2
    go_loopg [140] k1 (fun kq v140 w' => ∃ (x140_2 : Int) (x190001_2 : List (List Int)) (u190001 : Value), v140 = .int .i64 x140_2 ∧ Aside0 (spec_l6For.l1 kq l1 l0_2 (l0_2.length : Int) x140_2 t188 x190001_2 = some (r1, r2)) ∧ Aside0 (kq ≤ k1) ∧ Aside0 (Kd.N (Kd.slice 3 (Kd.int .i64)) 35 w' w.heap.size (fun k_ => (w.heap.size ≤ k_) ∧ k_ ≠ gb186 ∧ k_ ≠ gb187 ∧ k_ ≠ gb189) u190001 x190001_2) ∧ Aside0 (w'.heap[gb186]? = some (.cells #[.int .i64 a0_0, (.slice A0_1 l0_1.length c0_1), (.slice A0_2 l0_2.length c0_2)] 37 (0, 0))) ∧ Aside0 (w'.heap[gb187]? = some (.cells #[.int .i64 0, (.slice none 0 0)] 47 (0, 0))) ∧ Aside0 (w'.heap[gb189]? = some (.cells #[.int .i64 t188, u190001] 47 (0, 0))) ∧ Aside0 (Below w.heap.size w w'))
    case atStart => exact ⟨(0), (x190001_1), (u190001), qS, H', ⟨Nat.le_refl _⟩, ⟨qN HO_190001.out⟩, ⟨qK BK186.out⟩, ⟨qK BK187.out⟩, ⟨qK BK189.out⟩, ⟨qB⟩⟩
    case round =>
     clear H';obtain ⟨x140_2, x190001_2, u190001, rfl, HA, HK2, HO_190001, BK186, BK187, BK189, HB⟩ := hrel;cases gk with
     | zero => exact absurd HA.out (by simp [spec_l6For.l1])
     | succ k2 =>
      have H := HA.out;clear HA;simp only [spec_l6For.l1] at H;by_cases c154 : x140_2 < (l0_2.length : Int)
      ·rw [if_pos c154] at H;have c154b0 := decide_eq_true c154;clear c154;obtain ⟨c155, H⟩ := qI H;have c155b0 : decide (0 ≤ x140_2) = true := decide_eq_true c155;clear c155;obtain ⟨c156, H⟩ := qI H;have c156b0 : decide (x140_2 < (l0_2.length : Int)) = true := decide_eq_true c156;clear c156;obtain ⟨c157, H⟩ := qI H;have c157b0 : decide (x140_2 < (l1.length : Int)) = true := decide_eq_true c157;clear c157;obtain ⟨bq158, hbq158⟩ : ∃ b_ : Bool, b_ = (rdOf false l1 x140_2) := ⟨_, rfl⟩;replace H : (if bq158 = true then (if x190001_2.length < 5864062014805 then (spec_l6For.l1 k2 l1 l0_2 (l0_2.length : Int) (wrap64 (x140_2 + 1)) t188 (x190001_2 ++ [(([wrap64 ((rd l0_2 x140_2) + 1)] : List Int))])) else (none)) else (if x190001_2.length < 5864062014805 then (spec_l6For.l1 k2 l1 l0_2 (l0_2.length : Int) (wrap64 (x140_2 + 1)) t188 (x190001_2 ++ [(([wrap64 ((wrap64 (-(rd l0_2 x140_2))) - 1)] : List Int))])) else (none))) = some (r1, r2) := (by rw [← hbq158] at H; exact H);have p258 : 0 ≤ (x140_2 : Int) := qD;have q258 : x140_2 < (l0_2.length : Int) := qD;obtain ⟨ad258, e258, hx258_0⟩ := Kd.at_int HR0_2.out x140_2 p258 q258;cases e258;replace hx258_0 := qx HB hx258_0;have q259 : x140_2 < (l1.length : Int) := qD;obtain ⟨ad259, e259, hx259_0⟩ := Kd.at_bool HR1.out x140_2 p258 q259;rw [← hbq158] at hx259_0;cases e259;replace hx259_0 := qx HB hx259_0;clear hbq158;have hcz0 := (blk_cell BK189.out 0).trans rfl;have hcz1 := (blk_cell BK189.out 1).trans rfl;have HF : ∀ k, wr.heap.size ≤ k → w.heap.size ≤ k ∧ k ≠ gb186 ∧ k ≠ gb187 ∧ k ≠ gb189 := fun k hk => ⟨Nat.le_trans HB.out.size hk, Kd.freshB BK186.out k hk, Kd.freshB BK187.out k hk, Kd.freshB BK189.out k hk⟩;cases bq158;case' false => rw [if_neg (by decide)] at H
       case' true => rw [if_pos rfl] at H
       all_goals
        obtain ⟨ys, hys, hl, H'⟩ := l6_cut1 (spec_l6For.l1 k2 l1 l0_2 _ _ _) H;clear H;go_wp2_with ((with_reducible refine gate_builtin (b := .append) (xs := #[.tmp _, .tmp _]) rfl ?_); at_builtin; refine l6_append (w0 := w) (wr := wr) (Wb := wr) (n := wr.heap.size) (ys := ys) rfl _ _ rfl Tryz.underlying45 info35 rfl (by rw [hys]; rfl) (by rw [hys]; rfl) rfl HO_190001.out (Below.refl _ _) HF HB.out hl (by rw [hys]; simp) (by rw [hys]; simp) ?_; intro A c w1 ho hb hk; have b1 := hk _ _ _ BK186.out (by decide); have b2 := hk _ _ _ BK187.out (by decide); have b3 := hk _ _ _ BK189.out (by decide); have hcw0 := (blk_cell b3 0).trans rfl; have hcw1 := (blk_cell b3 1).trans rfl; have hfw0 := blk_frozen b3 0; have hfw1 := blk_frozen b3 1)
        go_roundg k2;case measure => have := HK1.out; have := HK2.out; omega
        case rel => exact ⟨_, _, _, qS, H', ⟨by have := HK1.out; have := HK2.out; omega⟩, ⟨Kd.N_far (p := ⟨gb189, 1, none⟩) ho (fun k hk => hk.2.2.2) _⟩, ⟨blk_far b1 NB186_189.out _⟩, ⟨blk_far b2 NB187_189.out _⟩, ⟨blk_put b3 1 _ (by simp [hys])⟩, ⟨below_set hb GW189.out⟩⟩
      ·rw [if_neg c154] at H;have c154b0 := decide_eq_false c154;clear c154;simp only [Option.some.injEq, Prod.mk.injEq] at H;obtain ⟨rfl, rfl⟩ := H;have hnb180 := NB189_186.out;have hnc180 := NB186_189.out;have hnb181 := NB189_187.out;have hnc181 := NB187_189.out;have hcz182 := blk_cell BK189.out;have hcz182_1 := blk_cell BK189.out 1;have hfz182 := blk_frozen BK189.out;have hfz182_1 := blk_frozen BK189.out 1;have hnb183 := NB187_186.out;have hnc183 := NB186_187.out;have hcz184 := blk_cell BK187.out;have hcz184_1 := blk_cell BK187.out 1;have hfz184 := blk_frozen BK187.out;have hfz184_1 := blk_frozen BK187.out 1;obtain ⟨Ao185, co185, eo185⟩ := Kd.N_slice HO_190001.out;subst eo185;go_wp2
       refine bodyPost_ret (results_cell_row rfl _ _ gb187 47 #[.int .i64 t188, .slice Ao185 x190001_2.length co185] (0, 0) _ rfl (qP BK187.out) Tryz.underlying47 rfl (by kernel_rfl)) rfl ?_;exact ⟨_, qE, by (with_reducible repeat (first | apply Kd.N_alloc | apply Kd.N_drewN | apply Kd.N_drew)); exact Kd.N_mono (Kd.N_far (p := ⟨gb187, 1, none⟩) (Kd.N_far (p := ⟨gb187, 0, none⟩) (Kd.N_mono HO_190001.out (fun k_ hk => (⟨hk, hk.2.2.1⟩ : _ ∧ k_ ≠ gb187))) (fun _ hk => hk.2) (.int .i64 t188)) (fun _ hk => hk.2) (.slice Ao185 x190001_2.length co185)) (fun _ hk => hk.1.1), qB⟩
def spec_l2Bool.f (a0 : Bool) : Option (Int) := if a0 = true then (some 1) else (some 0)
theorem spec_l2Bool.calls (a0 : Bool) (r : Int) (w : World) (h : spec_l2Bool.f a0 = some r) :
  Calls Tryz.prog 36 #[.bool a0] w fun e w' => e = .returned (.int .u64 r) ∧ Drawn0 w w' := by
 have H := h;unfold spec_l2Bool.f at H;clear h;by_cases c2 : a0 = true
 ·subst c2;rw [if_pos rfl] at H;obtain rfl := Option.some.inj H;go_enter Tryz.func36, Tryz.ntmps36
  go_wp2
  go_ret
  exact ⟨qS, qT⟩
 ·replace c2 := Bool.eq_false_iff.mpr c2;subst c2;rw [if_neg (show ¬ (false = true) by decide)] at H;obtain rfl := Option.some.inj H;go_enter Tryz.func36, Tryz.ntmps36
  go_wp2
  go_ret
  exact ⟨qS, qT⟩
mutual
def spec_StateFrom.j0 : Nat → Int → List Bool → Bool → Option (List Int × Bool)
 | 0, _, _, _ => none
 | k + 1, x0, x1, x26 => if x26 = true then (some (([] : List Int), false)) else (if x0 = 0 then (none) else (if 0 ≤ (wrap64 ((x1.length : Int) / x0)) then (if (wrap64 ((x1.length : Int) / x0) : Int).toNat ≤ 35184372088832 then (spec_StateFrom.l0 k x0 (List.replicate (wrap64 ((x1.length : Int) / x0) : Int).toNat 0) x1 (x1.length : Int) 0) else (none)) else (none)))
def spec_StateFrom.l0 : Nat → Int → List Int → List Bool → Int → Int → Option (List Int × Bool)
 | 0, _, _, _, _, _ => none
 | k + 1, x0, x6, x32, x33, x34 => if x34 < x33 then (if 0 ≤ x34 then (if x34 < (x32.length : Int) then (if x0 = 0 then (none) else (if 0 ≤ (wrap64 (Int.tdiv x34 x0)) then (if (wrap64 (Int.tdiv x34 x0)) < (x6.length : Int) then ((spec_l2Bool.f (rdOf false x32 x34)).bind fun t279 => (if 0 ≤ (IntKind.u64.wrap (Int.tmod x34 x0)) then (spec_StateFrom.l0 k x0 (x6.set ((wrap64 (Int.tdiv x34 x0)) : Int).toNat (Go.bits .or .u64 (rd x6 (wrap64 (Int.tdiv x34 x0))) (shl .u64 t279 (IntKind.u64.wrap (Int.tmod x34 x0))))) x32 x33 (wrap64 (x34 + 1))) else (none))) else (none)) else (none))) else (none)) else (none)) else (some (x6, true))
end
def spec_StateFrom.f (k : Nat) (a0 : Int) (l1 : List Bool) : Option (List Int × Bool) := (spec_l5Wide.f a0).bind fun t272 => (if t272 = true then (if a0 = 0 then (none) else (if ((l1.length : Int) % a0) = 0 then ((spec_l1In.f (wrap64 ((l1.length : Int) / a0)) 1 4).bind fun t273 => (spec_StateFrom.j0 k a0 l1 (!t273))) else (spec_StateFrom.j0 k a0 l1 true))) else (spec_StateFrom.j0 k a0 l1 true))
theorem spec_StateFrom.mono_l : ∀ k, (∀ y0 y1 y2, LeO (spec_StateFrom.j0 k y0 y1 y2) (spec_StateFrom.j0 (k + 1) y0 y1 y2)) ∧ (∀ y0 y1 y2 y3 y4, LeO (spec_StateFrom.l0 k y0 y1 y2 y3 y4) (spec_StateFrom.l0 (k + 1) y0 y1 y2 y3 y4))
 | 0 => ⟨fun _ _ _ r h => by simp [spec_StateFrom.j0] at h, fun _ _ _ _ _ r h => by simp [spec_StateFrom.l0] at h⟩
 | k + 1 => by
  obtain ⟨ih0, ih1⟩ := spec_StateFrom.mono_l k;refine ⟨?_, ?_⟩
  ·intros;unfold spec_StateFrom.j0;exact qM
  ·intros;unfold spec_StateFrom.l0;exact qM
theorem spec_StateFrom.mono : ∀ a0 a1 k, LeO (spec_StateFrom.f k a0 a1) (spec_StateFrom.f (k + 1) a0 a1) := by
 intro a0 a1 k;obtain ⟨ih0, ih1⟩ := spec_StateFrom.mono_l k;unfold spec_StateFrom.f;exact qM
def spec_StateFrom.T7 : Bool × List (List Nat × List Nat) := (true, [([], []), ([], []), ([], []), ([1, 2], [1, 2]), ([0, 3], [0, 3]), ([4], [4]), ([], []), ([6], [6]), ([], []), ([], []), ([8, 9], [8, 9]), ([10], [10]), ([7, 11], [7, 11]), ([5, 12], [5, 12]), ([0, 3, 0, 1, 2, 3, 4, 5, 6, 7, 8, 9, 10, 11, 12, 13], [0, 3]), ([14, 13, 7, 0, 1, 2, 3, 4, 5, 6, 7, 8, 9, 10, 11, 12, 13], [13, 14])])
def spec_StateFrom.B7 : List Nat := [0, 0, 0, 6, 15, 31, 0, 64, 0, 0, 768, 1792, 4032, 8191, 16383, 32767]
theorem spec_StateFrom.tab7 : rtab .any (opsOf Tryz.f18 7) = spec_StateFrom.T7 := by kernel_rfl
theorem spec_StateFrom.bits7 : waitsOk spec_StateFrom.T7.2 spec_StateFrom.B7 = true := by kernel_rfl
theorem spec_StateFrom.calls (k : Nat) (a0 : Int) (A1 : Option Addr) (c1 : Nat) (l1 : List Bool) (r1 : List Int) (r2 : Bool) (w : World) (hr1 : Kd.C Kd.bool w A1 l1.length l1) (hc1 : l1.length ≤ c1) (h : spec_StateFrom.f k a0 l1 = some (r1, r2)) :
  Calls Tryz.prog 18 #[.int .i64 a0, .slice A1 l1.length c1] w fun e w' => ∃ v0_ : Value, e = .returned (.tuple #[v0_, .bool r2]) ∧ Kd.R (Kd.int .u64) 51 w' w.heap.size (fun _ => True) v0_ r1 ∧ Below w.heap.size w w' := by
 have HR1 := qa hr1;have HC1 := qa hc1;clear hr1 hc1;have HB := qa (Below.refl w.heap.size w);have H := h;unfold spec_StateFrom.f at H;clear h;have HC3 := qa H;clear H;go_enter Tryz.func18, Tryz.ntmps18
 go_upto_region 1 with (fail)
 go_cut [26] (fun v26 wc => ∃ (kq : Nat) (x26_2 : Bool), v26 = .bool x26_2 ∧ Aside0 (spec_StateFrom.j0 kq a0 l1 x26_2 = some (r1, r2)) ∧ Aside0 (kq ≤ k) ∧ Aside0 (Below w.heap.size w wc))
 case first =>
  have H := HC3.out;clear HC3;replace H := Option.bind_eq_some_iff.mp H;obtain ⟨t272, A40, H⟩ := H;try dsimp only at H
  have A4 := qa A40;clear A40;by_cases c5 : t272 = true
  ·subst c5;rw [if_pos rfl] at H;by_cases c6 : a0 = 0
   ·rw [if_pos c6] at H;exact absurd H (by simp)
   ·rw [if_neg c6] at H;obtain ⟨c6b0, c6b1⟩ := qb0 c6;(first | rw [c6b0] | (simp only [i64_w, i32_w]; rw [c6b0]) | skip)
    by_cases c7 : ((l1.length : Int) % a0) = 0
    ·rw [if_pos c7] at H;obtain ⟨c7b0, c7b1⟩ := qb1 c7;clear c7;replace H := Option.bind_eq_some_iff.mp H;obtain ⟨t273, A80, H⟩ := H;try dsimp only at H
     have A8 := qa A80;clear A80;have H' := qa H;clear H;go_wp2_with (first | (go_at_call 27; (with_reducible refine (spec_l5Wide.calls a0 true _ A4.out).mono ?_); rintro e w' ⟨rfl, ⟨nd, rfl⟩⟩) | (go_at_call 15; (with_reducible refine (spec_l1In.calls (wrap64 ((l1.length : Int) / a0)) 1 4 t273 _ A8.out).mono ?_); rintro e w' ⟨rfl, ⟨nd, rfl⟩⟩))
     go_meet
     case rel => exact ⟨_, (!t273), qS, H', ⟨by first | omega | exact Nat.le_refl _⟩, ⟨qB⟩⟩
    ·rw [if_neg c7] at H;obtain ⟨c7b0, c7b1⟩ := qb0 c7;have H' := qa H;clear H;go_wp2_with (first | (go_at_call 27; (with_reducible refine (spec_l5Wide.calls a0 true _ A4.out).mono ?_); rintro e w' ⟨rfl, ⟨nd, rfl⟩⟩))
     go_meet
     case rel => exact ⟨_, (true), qS, H', ⟨by first | omega | exact Nat.le_refl _⟩, ⟨qB⟩⟩
  ·replace c5 := Bool.eq_false_iff.mpr c5;subst c5;rw [if_neg (show ¬ (false = true) by decide)] at H;have H' := qa H;clear H;go_wp2_with (first | (go_at_call 27; (with_reducible refine (spec_l5Wide.calls a0 false _ A4.out).mono ?_); rintro e w' ⟨rfl, ⟨nd, rfl⟩⟩))
   go_meet
   case rel => exact ⟨_, (true), qS, H', ⟨by first | omega | exact Nat.le_refl _⟩, ⟨qB⟩⟩
 case rest =>
  clear HC3;obtain ⟨kq, x26_2, rfl, HA, HJ2, HB⟩ := hcut;cases kq with
  | zero => exact absurd HA.out (by simp [spec_StateFrom.j0])
  | succ kj2 =>
   have H := HA.out;clear HA;simp only [spec_StateFrom.j0] at H;by_cases c9 : x26_2 = true
   ·subst c9;rw [if_pos rfl] at H;simp only [Option.some.injEq, Prod.mk.injEq] at H;obtain ⟨rfl, rfl⟩ := H;go_wp2
    go_ret2
    exact ⟨_, qE, by first | exact Kd.R_nil _ _ _ _ _ | exact Kd.N_nil _ _ _ _ _ | exact Kd.V_nil _ _ _ _ _ | exact Kd.Q_nil _ _ _ _ _ | exact Kd.S_nil _ _ _ _ _, qB⟩
   ·replace c9 := Bool.eq_false_iff.mpr c9;subst c9;rw [if_neg (show ¬ (false = true) by decide)] at H;by_cases c10 : a0 = 0
    ·rw [if_pos c10] at H;exact absurd H (by simp)
    ·rw [if_neg c10] at H;obtain ⟨c10b0, c10b1⟩ := qb0 c10;obtain ⟨ji11, hji11⟩ : ∃ j_ : Int, (wrap64 ((l1.length : Int) / a0)) = j_ := ⟨_, rfl⟩;replace H : (if 0 ≤ (ji11) then (if (ji11 : Int).toNat ≤ 35184372088832 then (spec_StateFrom.l0 kj2 a0 (List.replicate (ji11 : Int).toNat 0) l1 (l1.length : Int) 0) else (none)) else (none)) = some (r1, r2) := (by first | (rw [hji11] at H; exact H) | (simp only [hji11] at H ⊢; exact H));have hji11w : (IntKind.i64.wrap ((l1.length : Int) / a0)) = ji11 := (i64_w _).trans hji11;obtain ⟨c12, H⟩ := qI H;have c12b0 := eq_true c12;have c12b1 : decide (0 ≤ (ji11)) = true := decide_eq_true c12;clear c12;obtain ⟨c13, H⟩ := qI H;have c13b0 := eq_true c13;have c13b1 : decide ((ji11 : Int).toNat ≤ 35184372088832) = true := decide_eq_true c13;clear c13;obtain ⟨y274, hy274⟩ : ∃ y_ : List Int, y_ = (List.replicate (ji11 : Int).toNat 0) := ⟨_, rfl⟩;rw [← hy274] at H;try rw [Option.bind_some] at H
     have Ny274 := qa hy274;clear hy274;have H' := qa H;clear H;go_wp2_with (first | ((with_reducible refine gate_dst (N := 31) rfl ?_); (try (refine gate_guard (by rfl) ?_; dsimp only)); refine Kd.R_make (Kd.int .u64) _ 51 rfl (N := 31) rfl 24 _ _ rfl ji11 rfl rfl Tryz.underlying24 (.int .u64 0) 8 info51 rfl (by decide) (by omega) 0 (ok := fun _ => True) (okp := fun _ => True) rfl (fun _ hk => hk) trivial qD (Nat.le_trans (Nat.mul_le_mul_right _ (qD : ji11.toNat ≤ 35184372088832)) (by omega)) (Below.refl _ _) (Nat.le_refl _) ?_; intro v275 w14 ho15 hb hg_ hnew_; clear hg_ hnew_; (first | rw [← Ny274.out] at ho15 | (simp only [Int.reduceToNat] at ho15; rw [← Ny274.out] at ho15)); have HO276 := qa (Kd.R_lower ho15 (below_size (qB))); replace HB := qa (below_step (qB) hb); clear hb ho15))
     go_loopg [34] kj2 (fun kq v34 w' => ∃ (x6_2 : List Int) (x34_2 : Int), v34 = .int .i64 x34_2 ∧ Aside0 (spec_StateFrom.l0 kq a0 x6_2 l1 (l1.length : Int) x34_2 = some (r1, r2)) ∧ Aside0 (kq ≤ kj2) ∧ Aside0 (Kd.R (Kd.int .u64) 51 w' w.heap.size (fun _ => True) v275 x6_2) ∧ Aside0 (Below w.heap.size w w'))
     case atStart => exact ⟨(y274), (0), qS, H', ⟨Nat.le_refl _⟩, ⟨qR HO276.out⟩, ⟨qB⟩⟩
     case round =>
      clear H';obtain ⟨x6_2, x34_2, rfl, HA, HK2, HO_6, HB⟩ := hrel;cases gk with
      | zero => exact absurd HA.out (by simp [spec_StateFrom.l0])
      | succ k2 =>
       have H := HA.out;clear HA;simp only [spec_StateFrom.l0] at H;by_cases c16 : x34_2 < (l1.length : Int)
       ·rw [if_pos c16] at H;have c16b0 := decide_eq_true c16;clear c16;obtain ⟨c17, H⟩ := qI H;have c17b0 : decide (0 ≤ x34_2) = true := decide_eq_true c17;clear c17;obtain ⟨c18, H⟩ := qI H;have c18b0 : decide (x34_2 < (l1.length : Int)) = true := decide_eq_true c18;clear c18;by_cases c19 : a0 = 0
        ·rw [if_pos c19] at H;exact absurd H (by simp)
        ·rw [if_neg c19] at H;obtain ⟨c19b0, c19b1⟩ := qb0 c19;obtain ⟨ji20, hji20⟩ : ∃ j_ : Int, (wrap64 (Int.tdiv x34_2 a0)) = j_ := ⟨_, rfl⟩;replace H : (if 0 ≤ (ji20) then (if (ji20) < (x6_2.length : Int) then ((spec_l2Bool.f (rdOf false l1 x34_2)).bind fun t279 => (if 0 ≤ (IntKind.u64.wrap (Int.tmod x34_2 a0)) then (spec_StateFrom.l0 k2 a0 (x6_2.set ((ji20) : Int).toNat (Go.bits .or .u64 (rd x6_2 (ji20)) (shl .u64 t279 (IntKind.u64.wrap (Int.tmod x34_2 a0))))) l1 (l1.length : Int) (wrap64 (x34_2 + 1))) else (none))) else (none)) else (none)) = some (r1, r2) := (by first | (rw [hji20] at H; exact H) | (simp only [hji20] at H ⊢; exact H));have hji20w : (IntKind.i64.wrap (Int.tdiv x34_2 a0)) = ji20 := (i64_w _).trans hji20;obtain ⟨c21, H⟩ := qI H;have c21b0 : decide (0 ≤ (ji20)) = true := decide_eq_true c21;clear c21;obtain ⟨c22, H⟩ := qI H;have c22b0 : decide ((ji20) < (x6_2.length : Int)) = true := decide_eq_true c22;clear c22;replace H := Option.bind_eq_some_iff.mp H;obtain ⟨t279, A230, H⟩ := H;try dsimp only at H
         have A23 := qa A230;clear A230;obtain ⟨ji24, hji24⟩ : ∃ j_ : Int, (IntKind.u64.wrap (Int.tmod x34_2 a0)) = j_ := ⟨_, rfl⟩;replace H : (if 0 ≤ (ji24) then (spec_StateFrom.l0 k2 a0 (x6_2.set ((ji20) : Int).toNat (Go.bits .or .u64 (rd x6_2 (ji20)) (shl .u64 t279 (ji24)))) l1 (l1.length : Int) (wrap64 (x34_2 + 1))) else (none)) = some (r1, r2) := (by first | (rw [hji24] at H; exact H) | (simp only [hji24] at H ⊢; exact H));(try rw [hji24] at A23)
         obtain ⟨c25, H⟩ := qI H;have c25b0 := eq_true c25;have c25b1 : decide (0 ≤ (ji24)) = true := decide_eq_true c25;clear c25;obtain ⟨ji26, hji26⟩ : ∃ j_ : Int, (shl .u64 t279 (ji24)) = j_ := ⟨_, rfl⟩;replace H : (spec_StateFrom.l0 k2 a0 (x6_2.set ((ji20) : Int).toNat (Go.bits .or .u64 (rd x6_2 (ji20)) (ji26))) l1 (l1.length : Int) (wrap64 (x34_2 + 1))) = some (r1, r2) := (by first | (rw [hji26] at H; exact H) | (simp only [hji26] at H ⊢; exact H));(try rw [hji26] at A23)
         have hji26_ : (IntKind.u64.wrap (t279 * 2 ^ min (ji24).toNat 64)) = ji26 := hji26;have hji26z : (ji24) ≤ 64 → (IntKind.u64.wrap (t279 * 2 ^ (ji24).toNat)) = ji26 := shl_small hji26;obtain ⟨y280, hy280⟩ : ∃ y_ : List Int, y_ = (x6_2.set ((ji20) : Int).toNat (Go.bits .or .u64 (rd x6_2 (ji20)) (ji26))) := ⟨_, rfl⟩;rw [← hy280] at H;try rw [Option.bind_some] at H
         have Ny280 := qa hy280;clear hy280;have H' := qa H;clear H;have p277 : 0 ≤ (x34_2 : Int) := qD;have q277 : x34_2 < (l1.length : Int) := qD;obtain ⟨ad277, e277, hx277_0⟩ := Kd.at_bool HR1.out x34_2 p277 q277;cases e277;replace hx277_0 := qx HB hx277_0;replace p277 := eq_true p277;replace q277 := eq_true q277;try go_wp2
         have n0_ := qa (Kd.R_drew HO_6.out);have n1_ := qa (below_drew1 HB.out);clear HO_6;clear HB;have HO_6 := n0_;have HB := n1_;clear n0_ n1_;obtain ⟨Ao29, co29, eo29⟩ := Kd.R_slice HO_6.out;(first | subst eo29 | (injection eo29 with f1_ f2_ f3_; have f4_ := f1_.symm; have f5_ := f3_.symm; clear f1_ f2_ f3_; subst f4_; subst f5_))
         have p278 : 0 ≤ ((ji20) : Int) := qD;have q278 : (ji20) < (x6_2.length : Int) := qD;obtain ⟨ad278, e278, hx278_0⟩ := Kd.at_int (Kd.R_reads' HO_6.out).2.2 (ji20) p278 q278;cases e278;replace p278 := eq_true p278;replace q278 := eq_true q278;refine start_ (n := 16) (S := fun w' => w'.cell? (ad278.add ((ji20)).toNat) = some (.int .u64 (rd x6_2 (ji20)))) (ds := [15]) #[false, false, false, false, false, false, false, false, false, false, false, false, false, false, false, false] (by kernel_rfl) rfl rfl (hx278_0) (fun hHeld => ?_); refine with_tabW spec_StateFrom.tab7 spec_StateFrom.bits7 (fun HT_ HW_ => ?_);generalize wr.drew = w28 at HO_6 HB hx278_0 hHeld ⊢;refine pure_ (i := 0) (N := some 39) (v := ?_) (a' := ?_) #[true, false, false, false, false, false, false, false, false, false, false, false, false, false, false, false] rfl rfl (any_of HT_.out (by kernel_rfl)) (fun _ _ _ h => h) (Or.inl ⟨by rfl, ?_⟩) ?_ ?_;rotate_left
         ·intro w';go_simp
          with_reducible rfl
         rotate_left
         ·simp only [Act.put, List.setIfInBounds_toArray, List.set_cons_zero, List.set_cons_succ, i64_w, i32_w];rfl
         refine pure_ (i := 1) (N := some 40) (v := ?_) (a' := ?_) #[true, true, false, false, false, false, false, false, false, false, false, false, false, false, false, false] rfl rfl (any_of HT_.out (by kernel_rfl)) (fun _ _ _ h => h) (Or.inl ⟨by rfl, ?_⟩) ?_ ?_;rotate_left
         ·intro w';go_simp
          with_reducible rfl
         rotate_left
         ·simp only [Act.put, List.setIfInBounds_toArray, List.set_cons_zero, List.set_cons_succ, i64_w, i32_w];rfl
         refine pure_ (i := 2) (N := some 41) (v := ?_) (a' := ?_) #[true, true, true, false, false, false, false, false, false, false, false, false, false, false, false, false] rfl rfl (any_of HT_.out (by kernel_rfl)) (fun _ _ _ h => h) (Or.inl ⟨by rfl, ?_⟩) ?_ ?_;rotate_left
         ·intro w';go_simp
          with_reducible rfl
         rotate_left
         ·simp only [Act.put, List.setIfInBounds_toArray, List.set_cons_zero, List.set_cons_succ, i64_w, i32_w];rfl
         refine pure_ (i := 3) (N := some 42) (v := ?_) (a' := ?_) #[true, true, true, true, false, false, false, false, false, false, false, false, false, false, false, false] rfl rfl (any_of HT_.out (by kernel_rfl)) (fun _ _ _ h => h) (Or.inl ⟨by rfl, ?_⟩) ?_ ?_;rotate_left
         ·intro w';go_simp
          with_reducible rfl
         rotate_left
         ·simp only [Act.put, List.setIfInBounds_toArray, List.set_cons_zero, List.set_cons_succ, i64_w, i32_w];rfl
         refine pure_ (i := 4) (N := some 43) (v := ?_) (a' := ?_) #[true, true, true, true, true, false, false, false, false, false, false, false, false, false, false, false] rfl rfl (any_of HT_.out (by kernel_rfl)) (fun _ _ _ h => h) (Or.inl ⟨by rfl, ?_⟩) ?_ ?_;rotate_left
         ·intro w';go_simp
          with_reducible rfl
         rotate_left
         ·simp only [Act.put, List.setIfInBounds_toArray, List.set_cons_zero, List.set_cons_succ, i64_w, i32_w];rfl
         refine pure_ (i := 6) (N := some 45) (v := ?_) (a' := ?_) #[true, true, true, true, true, false, true, false, false, false, false, false, false, false, false, false] rfl rfl (any_of HT_.out (by kernel_rfl)) (fun _ _ _ h => h) (Or.inl ⟨by rfl, ?_⟩) ?_ ?_;rotate_left
         ·intro w';go_simp
          with_reducible rfl
         rotate_left
         ·simp only [Act.put, List.setIfInBounds_toArray, List.set_cons_zero, List.set_cons_succ, i64_w, i32_w];rfl
         refine pure_ (i := 8) (N := some 47) (v := ?_) (a' := ?_) #[true, true, true, true, true, false, true, false, true, false, false, false, false, false, false, false] rfl rfl (any_of HT_.out (by kernel_rfl)) (fun _ _ _ h => h) (Or.inl ⟨by rfl, ?_⟩) ?_ ?_;rotate_left
         ·intro w';go_simp
          with_reducible rfl
         rotate_left
         ·simp only [Act.put, List.setIfInBounds_toArray, List.set_cons_zero, List.set_cons_succ, i64_w, i32_w];rfl
         refine pure_ (i := 9) (N := some 48) (v := ?_) (a' := ?_) #[true, true, true, true, true, false, true, false, true, true, false, false, false, false, false, false] rfl rfl (any_of HT_.out (by kernel_rfl)) (fun _ _ _ h => h) (Or.inl ⟨by rfl, ?_⟩) ?_ ?_;rotate_left
         ·intro w';go_simp
          with_reducible rfl
         rotate_left
         ·simp only [Act.put, List.setIfInBounds_toArray, List.set_cons_zero, List.set_cons_succ, i64_w, i32_w];rfl
         refine pure_ (i := 10) (N := some 49) (v := ?_) (a' := ?_) #[true, true, true, true, true, false, true, false, true, true, true, false, false, false, false, false] rfl rfl (any_of HT_.out (by kernel_rfl)) (fun _ _ _ h => h) (Or.inl ⟨by rfl, ?_⟩) ?_ ?_;rotate_left
         ·intro w';go_simp
          with_reducible rfl
         rotate_left
         ·simp only [Act.put, List.setIfInBounds_toArray, List.set_cons_zero, List.set_cons_succ, i64_w, i32_w];rfl
         refine pure_ (i := 11) (N := some 50) (v := ?_) (a' := ?_) #[true, true, true, true, true, false, true, false, true, true, true, true, false, false, false, false] rfl rfl (any_of HT_.out (by kernel_rfl)) (fun _ _ _ h => h) (Or.inl ⟨by rfl, ?_⟩) ?_ ?_;rotate_left
         ·intro w';go_simp
          with_reducible rfl
         rotate_left
         ·simp only [Act.put, List.setIfInBounds_toArray, List.set_cons_zero, List.set_cons_succ, i64_w, i32_w];rfl
         refine take_ (i := 5) (N := some 44) (v := ?_) (a' := ?_) #[true, true, true, true, true, true, true, false, true, true, true, true, false, false, false, false] rfl rfl (take_ofW HT_.out HW_.out (by kernel_rfl)) (fun _ _ _ h => h) (Or.inl ⟨by rfl, ?_⟩) hHeld ?_ ?_;rotate_left
         ·intro w' s0;go_simp
          with_reducible rfl
         rotate_left
         ·simp only [Act.put, List.setIfInBounds_toArray, List.set_cons_zero, List.set_cons_succ, i64_w, i32_w];rfl
         refine one_ (i := 7) (N := some 46) #[true, true, true, true, true, true, true, true, true, true, true, true, false, false, false, false] rfl rfl (one_of HT_.out (by kernel_rfl)) (by decide) (fun K hK => ?_);refine goes_ Tryz.func36 (by kernel_rfl) rfl #[.bool (rdOf false l1 x34_2)] (by rfl) rfl rfl qG ?_;with_reducible refine (spec_l2Bool.calls (rdOf false l1 x34_2) t279 _ A23.out).mono ?_
         rintro e w' ⟨rfl, ⟨nd, rfl⟩⟩;refine ⟨_, rfl, ?_⟩;have p27 : 0 ≤ ((ji20) : Int) := qD;have q27 : ((ji20) : Int) < ((x6_2.length : Int) : Int) := qD;obtain ⟨go27, co27, eo27, gb27, gl27, cl27, HG27⟩ := Kd.R_form HO_6.out (by omega);(first | cases eo27 | (injection eo27 with ea_ en_ ec_; (first | subst ea_ | (injection ea_ with ea_; subst ea_)); subst ec_; clear en_))
         have GB27 := qa gb27;have GG27 := qa HG27;clear gb27 gl27 HG27;(first | simp only [add_plain] at hx278_0 | skip)
         obtain ⟨hx27_0, hf27_0⟩ := Kd.R_celln 0 HO_6.out ((ji20) : Int) p27 q27;replace p27 := eq_true p27;replace q27 := eq_true q27;have HP30 := Kd.R_putn HO_6.out ((ji20) : Int) (Go.bits .or .u64 (rd x6_2 (ji20)) (ji26));rw [← Ny280.out] at HP30;have HQ30 := qa HP30;clear HP30;refine hK.out _ _ (hHeld) (fun hHeld => ?_);clear hK K;refine norm_ (a' := ?_) ?_ ?_;rotate_left
         ·show Act.put _ (some 46) _ = _;simp only [Act.put, List.setIfInBounds_toArray, List.set_cons_zero, List.set_cons_succ, i64_w, i32_w];rfl
         refine pure_ (i := 12) (N := some 51) (v := ?_) (a' := ?_) #[true, true, true, true, true, true, true, true, true, true, true, true, true, false, false, false] rfl rfl (any_of HT_.out (by kernel_rfl)) (fun _ _ _ h => h) (Or.inl ⟨by rfl, ?_⟩) ?_ ?_;rotate_left
         ·intro w';go_simp
          with_reducible rfl
         rotate_left
         ·simp only [Act.put, List.setIfInBounds_toArray, List.set_cons_zero, List.set_cons_succ, i64_w, i32_w];rfl
         refine pure_ (i := 13) (N := some 52) (v := ?_) (a' := ?_) #[true, true, true, true, true, true, true, true, true, true, true, true, true, true, false, false] rfl rfl (any_of HT_.out (by kernel_rfl)) (fun _ _ _ h => h) (Or.inl ⟨by rfl, ?_⟩) ?_ ?_;rotate_left
         ·intro w';go_simp
          with_reducible rfl
         rotate_left
         ·simp only [Act.put, List.setIfInBounds_toArray, List.set_cons_zero, List.set_cons_succ, i64_w, i32_w];rfl
         refine pure_ (i := 14) (N := some 53) (v := ?_) (a' := ?_) #[true, true, true, true, true, true, true, true, true, true, true, true, true, true, true, false] rfl rfl (any_of HT_.out (by kernel_rfl)) (fun _ _ _ h => h) (Or.inl ⟨by rfl, ?_⟩) ?_ ?_;rotate_left
         ·intro w';go_simp
          with_reducible rfl
         rotate_left
         ·simp only [Act.put, List.setIfInBounds_toArray, List.set_cons_zero, List.set_cons_succ, i64_w, i32_w];rfl
         refine last_ (i := 15) (N := none) #[true, true, true, true, true, true, true, true, true, true, true, true, true, true, true, true] rfl rfl (one_of HT_.out (by kernel_rfl)) (by decide) (fun K hK => ?_);refine skip_ (w1 := ?_) (by rfl) rfl ?_ ?_;rotate_left
         ·go_simp
          rfl
         refine hK.out _ _ ?_;clear hK K;refine done_ (done_of HT_.out (by kernel_rfl)) ?_;try go_wp2
         go_roundg k2;case measure => have := HJ2.out; have := HK2.out; omega
         case rel => exact ⟨(y280), (wrap64 (x34_2 + 1)), qS, H', ⟨by have := HJ2.out; have := HK2.out; omega⟩, ⟨qR HQ30.out⟩, ⟨by repeat (first | (with_reducible first | exact HB.out | apply below_alloc | apply pw_below_drewN | apply below_drew1 | refine below_set ?_ GB27.out) | exact HB.out)⟩⟩
       ·rw [if_neg c16] at H;have c16b0 := decide_eq_false c16;clear c16;simp only [Option.some.injEq, Prod.mk.injEq] at H;obtain ⟨rfl, rfl⟩ := H;go_wp2
        go_ret2
        exact ⟨_, by first | rfl | (simp [errW_none, errW_some] <;> rfl) | (simp only [← hji11]; first | rfl | (simp [errW_none, errW_some] <;> rfl)) | (simp [*, errW_none, errW_some] <;> rfl), qR HO_6.out, qB⟩
end Go.Proofs.YtgdmdaalmoioeaaGreat.X
