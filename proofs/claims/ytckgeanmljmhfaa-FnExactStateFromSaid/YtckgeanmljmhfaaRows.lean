/-
  No cell of these rows narrows 'for every input' (looked for: loops, veiled, ifaces, maps, wideKeys, modest, calm, conditions, laid).
  DERIVED. THE GIVEN ROWS OF THIS SEAT. 5 by the template 'for every input the law returns true; each argument reads behind the call as it read before'; 0 by the template 'total and deterministic' (their statements: YtckgeanmljmhfaaTotals.lean).
  GIVEN WITH THE SEED: the statements are not yours to turn. If you find one false, say at which input.
  Laid BY PROGRAM, IN A SANDBOX (cutbox-rows.mjs): the forced cells as the released guide's own fill.sh prints them over the translation b7439358e7c02d12… (all of the seat's roots in one cut). By AI agents, Wed Nov 11 2026. No macro, syntax, notation, axiom, sorry.
-/
import Derived.Test.YtckgeanmljmhfaaChecked
import GoSem.Claim
import GoSem.ClaimJoined
import GoSem.ClaimMapViews
import Derived.JoinedTies
import Derived.KernelRfl
namespace Go.Proofs.Ytckgeanmljmhfaa
/- THE CELL 'sum', in the pinned program and in every row, IS THE sha256 OF THE DUMP (.gsa) THAT YtckgeanmljmhfaaProg.lean LOADS. Nothing in Lean hashes anything: it is a label: what it is worth is what the hold of that sum in a sandbox is worth. -/
noncomputable def Try.pinned : Pinned := { name := "ytckgeanmljmhfaa", sum := "b7439358e7c02d12233ce1a15d634e819633455761650f746aa13d2a91e951fa", checked := Try.checked }
namespace Rows
def none {H : Type} : Left H := { results := [], args := [] }

/-- 'laws.FnExactGatesFor': WHATEVER THE INPUT: true; the input reads as it did. -/
def fnExactGatesForSpec : ChangeSpec := { name := "fnExactGatesFor", fn := fun _ => fun
  | [d1, d2, d3] => { results := [.lit (.bool true)], args := [d1, d2, d3] }
  | _ => none }
def fnExactGatesForRow : OpenClaim := { program := "ytckgeanmljmhfaa", sum := "b7439358e7c02d12233ce1a15d634e819633455761650f746aa13d2a91e951fa", func := "loop.example/g00649/laws.FnExactGatesFor", spec := "fnExactGatesFor", unfollowed := true, recurses := true, apart := false }
def FnExactGatesForSaid : Prop := fnExactGatesForRow.holds Try.pinned (OpenSpec.ofChange fnExactGatesForSpec)

/-- ITS FALSE NEIGHBOUR: 'it returns false'. Refute it at one input. -/
def fnExactGatesForWrong : ChangeSpec := { name := "fnExactGatesFor", fn := fun _ => fun
  | [d1, d2, d3] => { results := [.lit (.bool false)], args := [d1, d2, d3] }
  | _ => none }
def FnExactGatesForWrongFalsely : Prop := fnExactGatesForRow.holds Try.pinned (OpenSpec.ofChange fnExactGatesForWrong)

/-- 'laws.FnExactGateCount': WHATEVER THE INPUT: true; the input reads as it did. -/
def fnExactGateCountSpec : ChangeSpec := { name := "fnExactGateCount", fn := fun _ => fun
  | [d1, d2, d3] => { results := [.lit (.bool true)], args := [d1, d2, d3] }
  | _ => none }
def fnExactGateCountRow : OpenClaim := { program := "ytckgeanmljmhfaa", sum := "b7439358e7c02d12233ce1a15d634e819633455761650f746aa13d2a91e951fa", func := "loop.example/g00649/laws.FnExactGateCount", spec := "fnExactGateCount", unfollowed := true, recurses := true, apart := false }
def FnExactGateCountSaid : Prop := fnExactGateCountRow.holds Try.pinned (OpenSpec.ofChange fnExactGateCountSpec)

/-- ITS FALSE NEIGHBOUR: 'it returns false'. Refute it at one input. -/
def fnExactGateCountWrong : ChangeSpec := { name := "fnExactGateCount", fn := fun _ => fun
  | [d1, d2, d3] => { results := [.lit (.bool false)], args := [d1, d2, d3] }
  | _ => none }
def FnExactGateCountWrongFalsely : Prop := fnExactGateCountRow.holds Try.pinned (OpenSpec.ofChange fnExactGateCountWrong)

/-- 'laws.FnExactRunLaid': WHATEVER THE INPUT: true; the input reads as it did. -/
def fnExactRunLaidSpec : ChangeSpec := { name := "fnExactRunLaid", fn := fun _ => fun
  | [d1, d2, d3] => { results := [.lit (.bool true)], args := [d1, d2, d3] }
  | _ => none }
def fnExactRunLaidRow : OpenClaim := { program := "ytckgeanmljmhfaa", sum := "b7439358e7c02d12233ce1a15d634e819633455761650f746aa13d2a91e951fa", func := "loop.example/g00649/laws.FnExactRunLaid", spec := "fnExactRunLaid", unfollowed := true, recurses := true, apart := false }
def FnExactRunLaidSaid : Prop := fnExactRunLaidRow.holds Try.pinned (OpenSpec.ofChange fnExactRunLaidSpec)

/-- ITS FALSE NEIGHBOUR: 'it returns false'. Refute it at one input. -/
def fnExactRunLaidWrong : ChangeSpec := { name := "fnExactRunLaid", fn := fun _ => fun
  | [d1, d2, d3] => { results := [.lit (.bool false)], args := [d1, d2, d3] }
  | _ => none }
def FnExactRunLaidWrongFalsely : Prop := fnExactRunLaidRow.holds Try.pinned (OpenSpec.ofChange fnExactRunLaidWrong)

/-- 'laws.FnExactBitsOf': WHATEVER THE INPUT: true; the input reads as it did. -/
def fnExactBitsOfSpec : ChangeSpec := { name := "fnExactBitsOf", fn := fun _ => fun
  | [d1, d2] => { results := [.lit (.bool true)], args := [d1, d2] }
  | _ => none }
def fnExactBitsOfRow : OpenClaim := { program := "ytckgeanmljmhfaa", sum := "b7439358e7c02d12233ce1a15d634e819633455761650f746aa13d2a91e951fa", func := "loop.example/g00649/laws.FnExactBitsOf", spec := "fnExactBitsOf", unfollowed := true, recurses := true, apart := false }
def FnExactBitsOfSaid : Prop := fnExactBitsOfRow.holds Try.pinned (OpenSpec.ofChange fnExactBitsOfSpec)

/-- ITS FALSE NEIGHBOUR: 'it returns false'. Refute it at one input. -/
def fnExactBitsOfWrong : ChangeSpec := { name := "fnExactBitsOf", fn := fun _ => fun
  | [d1, d2] => { results := [.lit (.bool false)], args := [d1, d2] }
  | _ => none }
def FnExactBitsOfWrongFalsely : Prop := fnExactBitsOfRow.holds Try.pinned (OpenSpec.ofChange fnExactBitsOfWrong)

/-- 'laws.FnExactStateFrom': WHATEVER THE INPUT: true; the input reads as it did. -/
def fnExactStateFromSpec : ChangeSpec := { name := "fnExactStateFrom", fn := fun _ => fun
  | [d1, d2] => { results := [.lit (.bool true)], args := [d1, d2] }
  | _ => none }
def fnExactStateFromRow : OpenClaim := { program := "ytckgeanmljmhfaa", sum := "b7439358e7c02d12233ce1a15d634e819633455761650f746aa13d2a91e951fa", func := "loop.example/g00649/laws.FnExactStateFrom", spec := "fnExactStateFrom", unfollowed := true, recurses := true, apart := false }
def FnExactStateFromSaid : Prop := fnExactStateFromRow.holds Try.pinned (OpenSpec.ofChange fnExactStateFromSpec)

/-- ITS FALSE NEIGHBOUR: 'it returns false'. Refute it at one input. -/
def fnExactStateFromWrong : ChangeSpec := { name := "fnExactStateFrom", fn := fun _ => fun
  | [d1, d2] => { results := [.lit (.bool false)], args := [d1, d2] }
  | _ => none }
def FnExactStateFromWrongFalsely : Prop := fnExactStateFromRow.holds Try.pinned (OpenSpec.ofChange fnExactStateFromWrong)

/- THE SECOND FORM. 'bulk': how many values and letters a reading holds, each counted each time it is reached (what is shared counts as often as it is met; a slice's spare places count too). A statement '..UptoSaid' is the law's where the arguments, and the package variables that the reading takes, are together of bulk at most 1048576: NARROWER than '..Said'. Prove '..Said' where nothing that the law and all that it calls make is longer than what came in: it says more and counts as full. Else prove '..UptoSaid'. A law counts once. -/
mutual
def uptoBulk {H : Type} : DataW H → Nat
  | .lit (.string bytes) => bytes.length + 1
  | .lit _ => 1
  | .nil => 1
  | .ptr d => uptoBulk d + 1
  | .slice elems spare => uptoBulkAll elems + uptoBulkAll spare + 1
  | .agg parts => uptoBulkAll parts + 1
  | .iface _ d => uptoBulk d + 1
  | .map entries => uptoBulkEntries entries + 1
  | .held _ => 1
def uptoBulkAll {H : Type} : List (DataW H) → Nat
  | [] => 0
  | d :: r => uptoBulk d + uptoBulkAll r
def uptoBulkEntries {H : Type} : List (Lit × DataW H) → Nat
  | [] => 0
  | x :: r => uptoBulkEntry x + uptoBulkEntries r
def uptoBulkEntry {H : Type} : Lit × DataW H → Nat
  | (.string bytes, d) => bytes.length + uptoBulk d + 1
  | (_, d) => uptoBulk d + 1
 end
def uptoSmall : (H : Type) → List (DataW H) → Bool := fun _ ds => decide (uptoBulkAll ds ≤ 1048576)
def OpenSpec.upto (s : _root_.Go.ChangeSpec) : _root_.Go.OpenSpec := { _root_.Go.OpenSpec.ofChange s with cond := some uptoSmall }

/-- 'laws.FnExactGatesFor', WHERE WHAT IT READS IS OF BULK AT MOST 1048576: true; the input reads as it did. -/
def fnExactGatesForUptoRow : OpenClaim := { program := "ytckgeanmljmhfaa", sum := "b7439358e7c02d12233ce1a15d634e819633455761650f746aa13d2a91e951fa", func := "loop.example/g00649/laws.FnExactGatesFor", spec := "fnExactGatesFor", unfollowed := true, recurses := true, apart := false, narrowed := true }
def FnExactGatesForUptoSaid : Prop := fnExactGatesForUptoRow.holds Try.pinned (OpenSpec.upto fnExactGatesForSpec)

/-- 'laws.FnExactGateCount', WHERE WHAT IT READS IS OF BULK AT MOST 1048576: true; the input reads as it did. -/
def fnExactGateCountUptoRow : OpenClaim := { program := "ytckgeanmljmhfaa", sum := "b7439358e7c02d12233ce1a15d634e819633455761650f746aa13d2a91e951fa", func := "loop.example/g00649/laws.FnExactGateCount", spec := "fnExactGateCount", unfollowed := true, recurses := true, apart := false, narrowed := true }
def FnExactGateCountUptoSaid : Prop := fnExactGateCountUptoRow.holds Try.pinned (OpenSpec.upto fnExactGateCountSpec)

/-- 'laws.FnExactRunLaid', WHERE WHAT IT READS IS OF BULK AT MOST 1048576: true; the input reads as it did. -/
def fnExactRunLaidUptoRow : OpenClaim := { program := "ytckgeanmljmhfaa", sum := "b7439358e7c02d12233ce1a15d634e819633455761650f746aa13d2a91e951fa", func := "loop.example/g00649/laws.FnExactRunLaid", spec := "fnExactRunLaid", unfollowed := true, recurses := true, apart := false, narrowed := true }
def FnExactRunLaidUptoSaid : Prop := fnExactRunLaidUptoRow.holds Try.pinned (OpenSpec.upto fnExactRunLaidSpec)

/-- 'laws.FnExactBitsOf', WHERE WHAT IT READS IS OF BULK AT MOST 1048576: true; the input reads as it did. -/
def fnExactBitsOfUptoRow : OpenClaim := { program := "ytckgeanmljmhfaa", sum := "b7439358e7c02d12233ce1a15d634e819633455761650f746aa13d2a91e951fa", func := "loop.example/g00649/laws.FnExactBitsOf", spec := "fnExactBitsOf", unfollowed := true, recurses := true, apart := false, narrowed := true }
def FnExactBitsOfUptoSaid : Prop := fnExactBitsOfUptoRow.holds Try.pinned (OpenSpec.upto fnExactBitsOfSpec)

/-- 'laws.FnExactStateFrom', WHERE WHAT IT READS IS OF BULK AT MOST 1048576: true; the input reads as it did. -/
def fnExactStateFromUptoRow : OpenClaim := { program := "ytckgeanmljmhfaa", sum := "b7439358e7c02d12233ce1a15d634e819633455761650f746aa13d2a91e951fa", func := "loop.example/g00649/laws.FnExactStateFrom", spec := "fnExactStateFrom", unfollowed := true, recurses := true, apart := false, narrowed := true }
def FnExactStateFromUptoSaid : Prop := fnExactStateFromUptoRow.holds Try.pinned (OpenSpec.upto fnExactStateFromSpec)

end Rows
end Go.Proofs.Ytckgeanmljmhfaa
