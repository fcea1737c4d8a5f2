/- Go functions as Lean functions, each with the proof that its call comes to just its answer. Conditions: the arguments are of their kinds. -/
import Derived.Test.YtckgeanmljmhfaaProg
import Derived.Below
import Derived.Deep.Draws
import Derived.Deep.AppendLies
import Derived.Maps.AppendAt
import Derived.OwnWalk
import Derived.Laws.BytesArg
import Derived.Laws.MakeOwn
import Derived.Laws.OwnMore
import Derived.Deep.OwnRows
import Derived.Tactics
import Derived.Lib.ConvBytes
import Derived.Laws.Slices
import Derived.WalkKit
import Derived.KernelRfl
import Derived.RowKit3
import Derived.Deep.LoopGhost
import Derived.Deep.QuietTactic
import Derived.BigQuiet
import Derived.WideLaws
import Derived.Deep.DeepCutAuto
import Derived.Deep.CutBlock
import Derived.Deep.RegionHeld3
import Derived.Laws.Rows
import Derived.Lib.AppendStr
import Derived.ArgAppend
import Derived.Laws.IdiomCopy
import Derived.OrdersHeld
import Derived.Laws.BitsLemmas
import Derived.RowKit
import Derived.Test.YtckgeanmljmhfaaWWords
import Derived.Test.YtckgeanmljmhfaaWLast
import Derived.Test.YtckgeanmljmhfaaWTab
import Derived.Test.YtckgeanmljmhfaaWFour
import Derived.Test.YtckgeanmljmhfaaWQPut
import Derived.Test.YtckgeanmljmhfaaWApart
import Derived.Test.YtckgeanmljmhfaaWArr
import Derived.Test.YtckgeanmljmhfaaWZeros
import Derived.Test.YtckgeanmljmhfaaWFoot
import Derived.Test.YtckgeanmljmhfaaWKept
import Derived.Test.YtckgeanmljmhfaaWShare
import Derived.Test.YtckgeanmljmhfaaWN
import Derived.Test.YtckgeanmljmhfaaWFootNe
import Derived.Test.YtckgeanmljmhfaaWAt
import Derived.Test.YtckgeanmljmhfaaWEqStruct
import Derived.Test.YtckgeanmljmhfaaWRepsOne
import Derived.Test.YtckgeanmljmhfaaWInv
import Derived.Test.YtckgeanmljmhfaaWInvWords
import Derived.Test.YtckgeanmljmhfaaWGuard
import Derived.Test.YtckgeanmljmhfaaWNEv
import Derived.Test.YtckgeanmljmhfaaWMore
namespace Go.Proofs.Ytckgeanmljmhfaa.X
open Go.RowKit Go.Proofs.YtckgeanmljmhfaaW.PrintWords Go.Proofs.YtckgeanmljmhfaaW.PrintLast Go.Proofs.YtckgeanmljmhfaaW.PrintMore
attribute [local go_sem] max2_int min2_int max_two min_two max_three min_three max_four min_four   -- for this text's walks alone
set_option linter.unusedVariables false
set_option linter.unusedSimpArgs false



def errW : Option Int → Value
  | none => .nilIface
  | some c => .iface 0 (.int .i64 c)
theorem errW_none : errW none = .nilIface := rfl
theorem errW_some (c : Int) : errW (some c) = .iface 0 (.int .i64 c) := rfl

theorem info4 : (Try.prog.info? 4).map (fun i => (i.zero, i.size, i.bytes)) = some (some (.bool false), 1, 1) := by kernel_rfl
theorem info40 : (Try.prog.info? 40).map (fun i => (i.zero, i.size, i.bytes)) = some (some (.int .u64 0), 1, 8) := by kernel_rfl
-- the values' own types
/-! #### struct type 65 -/
structure S65 where
  f0 : Int
  f1 : Int
/-! #### struct type 63 -/
structure S63 where
  f0 : Int
  f1 : Int
/-! #### struct type 93 -/
structure S93 where
  f0 : Int
  f1 : Int
  f2 : Int
def k93 : Kd S93 := Kd.iso (Kd.pair (Kd.int .i64) (Kd.pair (Kd.int .i64) (Kd.int .i64))) (fun x : S93 => (x.f0, x.f1, x.f2))
/-! #### struct type 27 -/
structure S27 where
  f0 : Int
  f1 : (List S93)
  f2 : (List Int)
-- short names of proof pieces that recur
theorem qB {p : Prop} (h : p := by repeat (first | (with_reducible first | exact HB.out | apply below_alloc | apply pw_below_drewN | apply below_drew1 | refine below_set ?_ (Aside0.out ‹_›)) | exact HB.out)) : p := h
theorem qH {p : Prop} (h : p := by repeat (first | (with_reducible first | exact HK.out | apply Kept.alloc | apply Kept.drewN | apply Kept.drew) | exact HK.out)) : p := h
theorem qD {p : Prop} [Decidable p] (h : decide p = true := by first | (with_reducible assumption) | assumption) : p := of_decide_eq_true h
theorem qR {q p : Prop} (a : q) (h : q → p := by intro h_; (with_reducible repeat (first | apply Kd.R_alloc | apply Kd.R_drewN | apply Kd.R_drew)); exact h_) : p := h a
theorem qE {p : Prop} (h : p := by first | rfl | (simp [errW_none, errW_some] <;> rfl) | (simp [*, errW_none, errW_some] <;> rfl)) : p := h
theorem qS {p : Prop} (h : p := by first | rfl | (simp; done) | (simp [*]; done)) : p := h
theorem qG {p : Prop} (h : p := by (try simp only [List.map_toArray, List.map_cons, List.map_nil]); first | done | rfl | (simp only [List.length_drop, List.length_take]; rfl)) : p := h
theorem qC {q p : Prop} (a : q) (h : q → p := by intro h_; repeat (first | exact h_ | (with_reducible refine Kd.C_alloc ?_ _) | (with_reducible refine Kd.C_drewN ?_ _) | (with_reducible refine Kd.C_drew ?_))) : p := h a
theorem qY {α : Sort _} {a b : α} {q p : Prop} (y : a = b) (x : q) (h : a = b → q → p := by intro y_ H_; first | (rw [y_]; with_reducible exact H_) | (have H2_ := (Option.bind_some _ _).symm.trans H_; rw [y_]; with_reducible exact H2_) | (have H2_ := (Option.bind_some _ _).symm.trans H_; with_reducible exact H2_) | with_reducible exact H_ | (rw [y_]; exact H_) | exact H_) : p := h y x
end Go.Proofs.Ytckgeanmljmhfaa.X
