/- Each Go function as a Lean function, with the proof that the call comes to just its answer; or a law's row out of its pure statement. Conditions: the arguments are of their kinds. Written by this session's program wip/xp/xp.sh. -/
import Derived.Test.YtkafeohhljdohaaDoorProg
import Derived.Below
import Derived.Deep.Draws
import Derived.Deep.AppendLies
import Derived.Maps.AppendAt
import Derived.OwnWalk
import Derived.Laws.BytesArg
import Derived.Laws.MakeOwn
import Derived.Laws.OwnMore
import Derived.Deep.OwnRows
import Derived.Tactics
import Derived.Lib.ConvBytes
import Derived.Laws.Slices
import Derived.WalkKit
import Derived.KernelRfl
import Derived.RowKit3
import Derived.Deep.LoopGhost
import Derived.Deep.QuietTactic
import Derived.BigQuiet
import Derived.WideLaws
import Derived.Deep.DeepCutAuto
import Derived.Deep.CutBlock
import Derived.Deep.RegionHeld3
import Derived.Laws.Rows
import Derived.Lib.AppendStr
import Derived.ArgAppend
import Derived.Laws.IdiomCopy
import Derived.OrdersHeld
import Derived.Laws.BitsLemmas
import Derived.RowKit
import Derived.Test.YtkafeohhljdohaaDoorWWords
import Derived.Test.YtkafeohhljdohaaDoorWLast
import Derived.Test.YtkafeohhljdohaaDoorWTab
import Derived.Test.YtkafeohhljdohaaDoorWFour
import Derived.Test.YtkafeohhljdohaaDoorWQPut
import Derived.Test.YtkafeohhljdohaaDoorWApart
import Derived.Test.YtkafeohhljdohaaDoorWArr
import Derived.Test.YtkafeohhljdohaaDoorWZeros
import Derived.Test.YtkafeohhljdohaaDoorWFoot
import Derived.Test.YtkafeohhljdohaaDoorWKept
import Derived.Test.YtkafeohhljdohaaDoorWShare
import Derived.Test.YtkafeohhljdohaaDoorWN
import Derived.Test.YtkafeohhljdohaaDoorWFootNe
import Derived.Test.YtkafeohhljdohaaDoorWAt
import Derived.Test.YtkafeohhljdohaaDoorWEqStruct
import Derived.Test.YtkafeohhljdohaaDoorWRepsOne
import Derived.Test.YtkafeohhljdohaaDoorWInv
import Derived.Test.YtkafeohhljdohaaDoorWInvWords
import Derived.Test.YtkafeohhljdohaaDoorWGuard
import Derived.Test.YtkafeohhljdohaaDoorWNEv
import Derived.Test.YtkafeohhljdohaaDoorWMore
namespace Go.Proofs.YtkafeohhljdohaaDoor.X
open Go.RowKit Go.Proofs.YtkafeohhljdohaaDoorW.PrintWords Go.Proofs.YtkafeohhljdohaaDoorW.PrintLast Go.Proofs.YtkafeohhljdohaaDoorW.PrintMore
attribute [local go_sem] max2_int min2_int max_two min_two max_three min_three max_four min_four   -- for this text's walks alone
set_option linter.unusedVariables false
set_option linter.unusedSimpArgs false



def errW : Option Int → Value
  | none => .nilIface
  | some c => .iface 42 (.int .i64 c)
theorem errW_none : errW none = .nilIface := rfl
theorem errW_some (c : Int) : errW (some c) = .iface 42 (.int .i64 c) := rfl

theorem info5 : (Tryd.prog.info? 5).map (fun i => (i.zero, i.size, i.bytes)) = some (some (.int .u8 0), 1, 1) := by kernel_rfl
-- the values' own types

-- short names of proof pieces that recur
theorem qB {p : Prop} (h : p := by repeat (first | (with_reducible first | exact HB.out | apply below_alloc | apply pw_below_drewN | apply below_drew1 | refine below_set ?_ (Aside0.out ‹_›)) | exact HB.out)) : p := h
theorem qH {p : Prop} (h : p := by repeat (first | (with_reducible first | exact HK.out | apply Kept.alloc | apply Kept.drewN | apply Kept.drew) | exact HK.out)) : p := h
theorem qD {p : Prop} [Decidable p] (h : decide p = true := by first | (with_reducible assumption) | assumption) : p := of_decide_eq_true h
theorem qK {q p : Prop} (a : q) (h : q → p := by intro h_; (with_reducible repeat (first | refine blk_drewN ?_ _ | refine blk_drew ?_ | refine blk_alloc ?_ _)); exact h_) : p := h a
theorem qF {q p : Prop} (a : q) (h : q → p := by intro h_; repeat (first | (with_reducible first | refine blk_drewN ?_ _ | refine blk_drew ?_ | refine blk_alloc ?_ _) | refine blk_far ?_ (Aside0.out ‹_›) _ | exact h_)) : p := h a
theorem qR {q p : Prop} (a : q) (h : q → p := by intro h_; (with_reducible repeat (first | apply Kd.R_alloc | apply Kd.R_drewN | apply Kd.R_drew)); exact h_) : p := h a
theorem qA {q p : Prop} (a : q) (h : q → p := by intro h_; first | (rw [add_block]; exact h_) | (show (Addr.add _ _).block ≠ _; rw [add_block]; exact h_) | exact h_) : p := h a
theorem qE {p : Prop} (h : p := by first | rfl | (simp [errW_none, errW_some] <;> rfl) | (simp [*, errW_none, errW_some] <;> rfl)) : p := h
theorem qS {p : Prop} (h : p := by first | rfl | (simp; done) | (simp [*]; done)) : p := h
theorem qG {p : Prop} (h : p := by (try simp only [List.map_toArray, List.map_cons, List.map_nil]); first | done | rfl | (simp only [List.length_drop, List.length_take]; rfl)) : p := h
theorem qC {q p : Prop} (a : q) (h : q → p := by intro h_; repeat (first | exact h_ | (with_reducible refine Kd.C_alloc ?_ _) | (with_reducible refine Kd.C_drewN ?_ _) | (with_reducible refine Kd.C_drew ?_))) : p := h a
theorem qY {α : Sort _} {a b : α} {q p : Prop} (y : a = b) (x : q) (h : a = b → q → p := by intro y_ H_; first | (rw [y_]; with_reducible exact H_) | (have H2_ := (Option.bind_some _ _).symm.trans H_; rw [y_]; with_reducible exact H2_) | (have H2_ := (Option.bind_some _ _).symm.trans H_; with_reducible exact H2_) | with_reducible exact H_ | (rw [y_]; exact H_) | exact H_) : p := h y x
end Go.Proofs.YtkafeohhljdohaaDoor.X
