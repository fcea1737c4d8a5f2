/-
  No cell of these rows narrows 'for every input' (looked for: loops, veiled, ifaces, maps, wideKeys, modest, calm, conditions, laid).
  DERIVED. THE GIVEN ROWS OF THIS SEAT. 8 by the template 'for every input the law returns true; each argument reads behind the call as it read before'; 0 by the template 'total and deterministic' (their statements: YtimkjhdopncimaaTotals.lean).
  GIVEN WITH THE SEED: the statements are not yours to turn. If you find one false, say at which input.
  Laid BY PROGRAM, IN A SANDBOX (cutbox-rows.mjs): the forced cells as the released guide's own fill.sh prints them over the translation 81c6f35649dc5c9b… (all of the seat's roots in one cut). By AI agents, Wed Nov 11 2026. No macro, syntax, notation, axiom, sorry.
-/
import Derived.Test.YtimkjhdopncimaaChecked
import GoSem.Claim
import GoSem.ClaimJoined
import GoSem.ClaimMapViews
import Derived.JoinedTies
import Derived.KernelRfl
namespace Go.Proofs.Ytimkjhdopncimaa
/- THE CELL 'sum', in the pinned program and in every row, IS THE sha256 OF THE DUMP (.gsa) THAT YtimkjhdopncimaaProg.lean LOADS. Nothing in Lean hashes anything: it is a label: what it is worth is what the hold of that sum in a sandbox is worth. -/
noncomputable def Try.pinned : Pinned := { name := "ytimkjhdopncimaa", sum := "81c6f35649dc5c9b8dfe600fd8dfdd90e39c3fd9a831d2fde9e7a6585f0a616f", checked := Try.checked }
namespace Rows
def none {H : Type} : Left H := { results := [], args := [] }

/-- 'laws.FnExactGoodCircuit': WHATEVER THE INPUT: true; the input reads as it did. -/
def fnExactGoodCircuitSpec : ChangeSpec := { name := "fnExactGoodCircuit", fn := fun _ => fun
  | [d] => { results := [.lit (.bool true)], args := [d] }
  | _ => none }
def fnExactGoodCircuitRow : OpenClaim := { program := "ytimkjhdopncimaa", sum := "81c6f35649dc5c9b8dfe600fd8dfdd90e39c3fd9a831d2fde9e7a6585f0a616f", func := "loop.example/g00649/laws.FnExactGoodCircuit", spec := "fnExactGoodCircuit", unfollowed := true, recurses := true, apart := false }
def FnExactGoodCircuitSaid : Prop := fnExactGoodCircuitRow.holds Try.pinned (OpenSpec.ofChange fnExactGoodCircuitSpec)

/-- ITS FALSE NEIGHBOUR: 'it returns false'. Refute it at one input. -/
def fnExactGoodCircuitWrong : ChangeSpec := { name := "fnExactGoodCircuit", fn := fun _ => fun
  | [d] => { results := [.lit (.bool false)], args := [d] }
  | _ => none }
def FnExactGoodCircuitWrongFalsely : Prop := fnExactGoodCircuitRow.holds Try.pinned (OpenSpec.ofChange fnExactGoodCircuitWrong)

/-- 'laws.FnExactAllWires': WHATEVER THE INPUT: true; the input reads as it did. -/
def fnExactAllWiresSpec : ChangeSpec := { name := "fnExactAllWires", fn := fun _ => fun
  | [d1, d2] => { results := [.lit (.bool true)], args := [d1, d2] }
  | _ => none }
def fnExactAllWiresRow : OpenClaim := { program := "ytimkjhdopncimaa", sum := "81c6f35649dc5c9b8dfe600fd8dfdd90e39c3fd9a831d2fde9e7a6585f0a616f", func := "loop.example/g00649/laws.FnExactAllWires", spec := "fnExactAllWires", unfollowed := true, recurses := true, apart := false }
def FnExactAllWiresSaid : Prop := fnExactAllWiresRow.holds Try.pinned (OpenSpec.ofChange fnExactAllWiresSpec)

/-- ITS FALSE NEIGHBOUR: 'it returns false'. Refute it at one input. -/
def fnExactAllWiresWrong : ChangeSpec := { name := "fnExactAllWires", fn := fun _ => fun
  | [d1, d2] => { results := [.lit (.bool false)], args := [d1, d2] }
  | _ => none }
def FnExactAllWiresWrongFalsely : Prop := fnExactAllWiresRow.holds Try.pinned (OpenSpec.ofChange fnExactAllWiresWrong)

/-- 'laws.FnExactRunCircuit': WHATEVER THE INPUT: true; the input reads as it did. -/
def fnExactRunCircuitSpec : ChangeSpec := { name := "fnExactRunCircuit", fn := fun _ => fun
  | [d1, d2] => { results := [.lit (.bool true)], args := [d1, d2] }
  | _ => none }
def fnExactRunCircuitRow : OpenClaim := { program := "ytimkjhdopncimaa", sum := "81c6f35649dc5c9b8dfe600fd8dfdd90e39c3fd9a831d2fde9e7a6585f0a616f", func := "loop.example/g00649/laws.FnExactRunCircuit", spec := "fnExactRunCircuit", unfollowed := true, recurses := true, apart := false }
def FnExactRunCircuitSaid : Prop := fnExactRunCircuitRow.holds Try.pinned (OpenSpec.ofChange fnExactRunCircuitSpec)

/-- ITS FALSE NEIGHBOUR: 'it returns false'. Refute it at one input. -/
def fnExactRunCircuitWrong : ChangeSpec := { name := "fnExactRunCircuit", fn := fun _ => fun
  | [d1, d2] => { results := [.lit (.bool false)], args := [d1, d2] }
  | _ => none }
def FnExactRunCircuitWrongFalsely : Prop := fnExactRunCircuitRow.holds Try.pinned (OpenSpec.ofChange fnExactRunCircuitWrong)

/-- 'laws.FnExactConeOf': WHATEVER THE INPUT: true; the input reads as it did. -/
def fnExactConeOfSpec : ChangeSpec := { name := "fnExactConeOf", fn := fun _ => fun
  | [d1, d2] => { results := [.lit (.bool true)], args := [d1, d2] }
  | _ => none }
def fnExactConeOfRow : OpenClaim := { program := "ytimkjhdopncimaa", sum := "81c6f35649dc5c9b8dfe600fd8dfdd90e39c3fd9a831d2fde9e7a6585f0a616f", func := "loop.example/g00649/laws.FnExactConeOf", spec := "fnExactConeOf", unfollowed := true, recurses := true, apart := false }
def FnExactConeOfSaid : Prop := fnExactConeOfRow.holds Try.pinned (OpenSpec.ofChange fnExactConeOfSpec)

/-- ITS FALSE NEIGHBOUR: 'it returns false'. Refute it at one input. -/
def fnExactConeOfWrong : ChangeSpec := { name := "fnExactConeOf", fn := fun _ => fun
  | [d1, d2] => { results := [.lit (.bool false)], args := [d1, d2] }
  | _ => none }
def FnExactConeOfWrongFalsely : Prop := fnExactConeOfRow.holds Try.pinned (OpenSpec.ofChange fnExactConeOfWrong)

/-- 'laws.FnExactPruneCircuit': WHATEVER THE INPUT: true; the input reads as it did. -/
def fnExactPruneCircuitSpec : ChangeSpec := { name := "fnExactPruneCircuit", fn := fun _ => fun
  | [d] => { results := [.lit (.bool true)], args := [d] }
  | _ => none }
def fnExactPruneCircuitRow : OpenClaim := { program := "ytimkjhdopncimaa", sum := "81c6f35649dc5c9b8dfe600fd8dfdd90e39c3fd9a831d2fde9e7a6585f0a616f", func := "loop.example/g00649/laws.FnExactPruneCircuit", spec := "fnExactPruneCircuit", unfollowed := true, recurses := true, apart := false }
def FnExactPruneCircuitSaid : Prop := fnExactPruneCircuitRow.holds Try.pinned (OpenSpec.ofChange fnExactPruneCircuitSpec)

/-- ITS FALSE NEIGHBOUR: 'it returns false'. Refute it at one input. -/
def fnExactPruneCircuitWrong : ChangeSpec := { name := "fnExactPruneCircuit", fn := fun _ => fun
  | [d] => { results := [.lit (.bool false)], args := [d] }
  | _ => none }
def FnExactPruneCircuitWrongFalsely : Prop := fnExactPruneCircuitRow.holds Try.pinned (OpenSpec.ofChange fnExactPruneCircuitWrong)

/-- 'laws.FnExactAddGates': WHATEVER THE INPUT: true; the input reads as it did. -/
def fnExactAddGatesSpec : ChangeSpec := { name := "fnExactAddGates", fn := fun _ => fun
  | [d1, d2, d3, d4] => { results := [.lit (.bool true)], args := [d1, d2, d3, d4] }
  | _ => none }
def fnExactAddGatesRow : OpenClaim := { program := "ytimkjhdopncimaa", sum := "81c6f35649dc5c9b8dfe600fd8dfdd90e39c3fd9a831d2fde9e7a6585f0a616f", func := "loop.example/g00649/laws.FnExactAddGates", spec := "fnExactAddGates", unfollowed := true, recurses := true, apart := false }
def FnExactAddGatesSaid : Prop := fnExactAddGatesRow.holds Try.pinned (OpenSpec.ofChange fnExactAddGatesSpec)

/-- ITS FALSE NEIGHBOUR: 'it returns false'. Refute it at one input. -/
def fnExactAddGatesWrong : ChangeSpec := { name := "fnExactAddGates", fn := fun _ => fun
  | [d1, d2, d3, d4] => { results := [.lit (.bool false)], args := [d1, d2, d3, d4] }
  | _ => none }
def FnExactAddGatesWrongFalsely : Prop := fnExactAddGatesRow.holds Try.pinned (OpenSpec.ofChange fnExactAddGatesWrong)

/-- 'laws.FnExactLessGates': WHATEVER THE INPUT: true; the input reads as it did. -/
def fnExactLessGatesSpec : ChangeSpec := { name := "fnExactLessGates", fn := fun _ => fun
  | [d1, d2, d3] => { results := [.lit (.bool true)], args := [d1, d2, d3] }
  | _ => none }
def fnExactLessGatesRow : OpenClaim := { program := "ytimkjhdopncimaa", sum := "81c6f35649dc5c9b8dfe600fd8dfdd90e39c3fd9a831d2fde9e7a6585f0a616f", func := "loop.example/g00649/laws.FnExactLessGates", spec := "fnExactLessGates", unfollowed := true, recurses := true, apart := false }
def FnExactLessGatesSaid : Prop := fnExactLessGatesRow.holds Try.pinned (OpenSpec.ofChange fnExactLessGatesSpec)

/-- ITS FALSE NEIGHBOUR: 'it returns false'. Refute it at one input. -/
def fnExactLessGatesWrong : ChangeSpec := { name := "fnExactLessGates", fn := fun _ => fun
  | [d1, d2, d3] => { results := [.lit (.bool false)], args := [d1, d2, d3] }
  | _ => none }
def FnExactLessGatesWrongFalsely : Prop := fnExactLessGatesRow.holds Try.pinned (OpenSpec.ofChange fnExactLessGatesWrong)

/-- 'laws.FnExactEqGates': WHATEVER THE INPUT: true; the input reads as it did. -/
def fnExactEqGatesSpec : ChangeSpec := { name := "fnExactEqGates", fn := fun _ => fun
  | [d1, d2, d3] => { results := [.lit (.bool true)], args := [d1, d2, d3] }
  | _ => none }
def fnExactEqGatesRow : OpenClaim := { program := "ytimkjhdopncimaa", sum := "81c6f35649dc5c9b8dfe600fd8dfdd90e39c3fd9a831d2fde9e7a6585f0a616f", func := "loop.example/g00649/laws.FnExactEqGates", spec := "fnExactEqGates", unfollowed := true, recurses := true, apart := false }
def FnExactEqGatesSaid : Prop := fnExactEqGatesRow.holds Try.pinned (OpenSpec.ofChange fnExactEqGatesSpec)

/-- ITS FALSE NEIGHBOUR: 'it returns false'. Refute it at one input. -/
def fnExactEqGatesWrong : ChangeSpec := { name := "fnExactEqGates", fn := fun _ => fun
  | [d1, d2, d3] => { results := [.lit (.bool false)], args := [d1, d2, d3] }
  | _ => none }
def FnExactEqGatesWrongFalsely : Prop := fnExactEqGatesRow.holds Try.pinned (OpenSpec.ofChange fnExactEqGatesWrong)

/- THE SECOND FORM. 'bulk': how many values and letters a reading holds, each counted each time it is reached (what is shared counts as often as it is met; a slice's spare places count too). A statement '..UptoSaid' is the law's where the arguments, and the package variables that the reading takes, are together of bulk at most 1048576: NARROWER than '..Said'. Prove '..Said' where nothing that the law and all that it calls make is longer than what came in: it says more and counts as full. Else prove '..UptoSaid'. A law counts once. -/
mutual
def uptoBulk {H : Type} : DataW H → Nat
  | .lit (.string bytes) => bytes.length + 1
  | .lit _ => 1
  | .nil => 1
  | .ptr d => uptoBulk d + 1
  | .slice elems spare => uptoBulkAll elems + uptoBulkAll spare + 1
  | .agg parts => uptoBulkAll parts + 1
  | .iface _ d => uptoBulk d + 1
  | .map entries => uptoBulkEntries entries + 1
  | .held _ => 1
def uptoBulkAll {H : Type} : List (DataW H) → Nat
  | [] => 0
  | d :: r => uptoBulk d + uptoBulkAll r
def uptoBulkEntries {H : Type} : List (Lit × DataW H) → Nat
  | [] => 0
  | x :: r => uptoBulkEntry x + uptoBulkEntries r
def uptoBulkEntry {H : Type} : Lit × DataW H → Nat
  | (.string bytes, d) => bytes.length + uptoBulk d + 1
  | (_, d) => uptoBulk d + 1
 end
def uptoSmall : (H : Type) → List (DataW H) → Bool := fun _ ds => decide (uptoBulkAll ds ≤ 1048576)
def OpenSpec.upto (s : _root_.Go.ChangeSpec) : _root_.Go.OpenSpec := { _root_.Go.OpenSpec.ofChange s with cond := some uptoSmall }

/-- 'laws.FnExactGoodCircuit', WHERE WHAT IT READS IS OF BULK AT MOST 1048576: true; the input reads as it did. -/
def fnExactGoodCircuitUptoRow : OpenClaim := { program := "ytimkjhdopncimaa", sum := "81c6f35649dc5c9b8dfe600fd8dfdd90e39c3fd9a831d2fde9e7a6585f0a616f", func := "loop.example/g00649/laws.FnExactGoodCircuit", spec := "fnExactGoodCircuit", unfollowed := true, recurses := true, apart := false, narrowed := true }
def FnExactGoodCircuitUptoSaid : Prop := fnExactGoodCircuitUptoRow.holds Try.pinned (OpenSpec.upto fnExactGoodCircuitSpec)

/-- 'laws.FnExactAllWires', WHERE WHAT IT READS IS OF BULK AT MOST 1048576: true; the input reads as it did. -/
def fnExactAllWiresUptoRow : OpenClaim := { program := "ytimkjhdopncimaa", sum := "81c6f35649dc5c9b8dfe600fd8dfdd90e39c3fd9a831d2fde9e7a6585f0a616f", func := "loop.example/g00649/laws.FnExactAllWires", spec := "fnExactAllWires", unfollowed := true, recurses := true, apart := false, narrowed := true }
def FnExactAllWiresUptoSaid : Prop := fnExactAllWiresUptoRow.holds Try.pinned (OpenSpec.upto fnExactAllWiresSpec)

/-- 'laws.FnExactRunCircuit', WHERE WHAT IT READS IS OF BULK AT MOST 1048576: true; the input reads as it did. -/
def fnExactRunCircuitUptoRow : OpenClaim := { program := "ytimkjhdopncimaa", sum := "81c6f35649dc5c9b8dfe600fd8dfdd90e39c3fd9a831d2fde9e7a6585f0a616f", func := "loop.example/g00649/laws.FnExactRunCircuit", spec := "fnExactRunCircuit", unfollowed := true, recurses := true, apart := false, narrowed := true }
def FnExactRunCircuitUptoSaid : Prop := fnExactRunCircuitUptoRow.holds Try.pinned (OpenSpec.upto fnExactRunCircuitSpec)

/-- 'laws.FnExactConeOf', WHERE WHAT IT READS IS OF BULK AT MOST 1048576: true; the input reads as it did. -/
def fnExactConeOfUptoRow : OpenClaim := { program := "ytimkjhdopncimaa", sum := "81c6f35649dc5c9b8dfe600fd8dfdd90e39c3fd9a831d2fde9e7a6585f0a616f", func := "loop.example/g00649/laws.FnExactConeOf", spec := "fnExactConeOf", unfollowed := true, recurses := true, apart := false, narrowed := true }
def FnExactConeOfUptoSaid : Prop := fnExactConeOfUptoRow.holds Try.pinned (OpenSpec.upto fnExactConeOfSpec)

/-- 'laws.FnExactPruneCircuit', WHERE WHAT IT READS IS OF BULK AT MOST 1048576: true; the input reads as it did. -/
def fnExactPruneCircuitUptoRow : OpenClaim := { program := "ytimkjhdopncimaa", sum := "81c6f35649dc5c9b8dfe600fd8dfdd90e39c3fd9a831d2fde9e7a6585f0a616f", func := "loop.example/g00649/laws.FnExactPruneCircuit", spec := "fnExactPruneCircuit", unfollowed := true, recurses := true, apart := false, narrowed := true }
def FnExactPruneCircuitUptoSaid : Prop := fnExactPruneCircuitUptoRow.holds Try.pinned (OpenSpec.upto fnExactPruneCircuitSpec)

/-- 'laws.FnExactAddGates', WHERE WHAT IT READS IS OF BULK AT MOST 1048576: true; the input reads as it did. -/
def fnExactAddGatesUptoRow : OpenClaim := { program := "ytimkjhdopncimaa", sum := "81c6f35649dc5c9b8dfe600fd8dfdd90e39c3fd9a831d2fde9e7a6585f0a616f", func := "loop.example/g00649/laws.FnExactAddGates", spec := "fnExactAddGates", unfollowed := true, recurses := true, apart := false, narrowed := true }
def FnExactAddGatesUptoSaid : Prop := fnExactAddGatesUptoRow.holds Try.pinned (OpenSpec.upto fnExactAddGatesSpec)

/-- 'laws.FnExactLessGates', WHERE WHAT IT READS IS OF BULK AT MOST 1048576: true; the input reads as it did. -/
def fnExactLessGatesUptoRow : OpenClaim := { program := "ytimkjhdopncimaa", sum := "81c6f35649dc5c9b8dfe600fd8dfdd90e39c3fd9a831d2fde9e7a6585f0a616f", func := "loop.example/g00649/laws.FnExactLessGates", spec := "fnExactLessGates", unfollowed := true, recurses := true, apart := false, narrowed := true }
def FnExactLessGatesUptoSaid : Prop := fnExactLessGatesUptoRow.holds Try.pinned (OpenSpec.upto fnExactLessGatesSpec)

/-- 'laws.FnExactEqGates', WHERE WHAT IT READS IS OF BULK AT MOST 1048576: true; the input reads as it did. -/
def fnExactEqGatesUptoRow : OpenClaim := { program := "ytimkjhdopncimaa", sum := "81c6f35649dc5c9b8dfe600fd8dfdd90e39c3fd9a831d2fde9e7a6585f0a616f", func := "loop.example/g00649/laws.FnExactEqGates", spec := "fnExactEqGates", unfollowed := true, recurses := true, apart := false, narrowed := true }
def FnExactEqGatesUptoSaid : Prop := fnExactEqGatesUptoRow.holds Try.pinned (OpenSpec.upto fnExactEqGatesSpec)

end Rows
end Go.Proofs.Ytimkjhdopncimaa
