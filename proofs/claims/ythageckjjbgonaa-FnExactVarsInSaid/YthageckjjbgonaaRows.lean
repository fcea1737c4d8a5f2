/-
  No cell of these rows narrows 'for every input' (looked for: loops, veiled, ifaces, maps, wideKeys, modest, calm, conditions, laid).
  DERIVED. THE GIVEN ROWS OF THIS SEAT. 7 by the template 'for every input the law returns true; each argument reads behind the call as it read before'; 0 by the template 'total and deterministic' (their statements: YthageckjjbgonaaTotals.lean).
  GIVEN WITH THE SEED: the statements are not yours to turn. If you find one false, say at which input.
  Laid BY PROGRAM, IN A SANDBOX (cutbox-rows.mjs): the forced cells as the released guide's own fill.sh prints them over the translation 0b3a9b5185004587… (all of the seat's roots in one cut). By AI agents, Wed Nov 11 2026. No macro, syntax, notation, axiom, sorry.
-/
import Derived.Test.YthageckjjbgonaaChecked
import GoSem.Claim
import GoSem.ClaimJoined
import GoSem.ClaimMapViews
import Derived.JoinedTies
import Derived.KernelRfl
namespace Go.Proofs.Ythageckjjbgonaa
/- THE CELL 'sum', in the pinned program and in every row, IS THE sha256 OF THE DUMP (.gsa) THAT YthageckjjbgonaaProg.lean LOADS. Nothing in Lean hashes anything: it is a label: what it is worth is what the hold of that sum in a sandbox is worth. -/
noncomputable def Try.pinned : Pinned := { name := "ythageckjjbgonaa", sum := "0b3a9b5185004587c4ee9cbe863f59bb152b28d47dca521475499d9d5eb863f1", checked := Try.checked }
namespace Rows
def none {H : Type} : Left H := { results := [], args := [] }

/-- 'laws.FnExactGoodTerm': WHATEVER THE INPUT: true; the input reads as it did. -/
def fnExactGoodTermSpec : ChangeSpec := { name := "fnExactGoodTerm", fn := fun _ => fun
  | [d1, d2, d3] => { results := [.lit (.bool true)], args := [d1, d2, d3] }
  | _ => none }
def fnExactGoodTermRow : OpenClaim := { program := "ythageckjjbgonaa", sum := "0b3a9b5185004587c4ee9cbe863f59bb152b28d47dca521475499d9d5eb863f1", func := "loop.example/g00649/laws.FnExactGoodTerm", spec := "fnExactGoodTerm", unfollowed := true, recurses := true, apart := false }
def FnExactGoodTermSaid : Prop := fnExactGoodTermRow.holds Try.pinned (OpenSpec.ofChange fnExactGoodTermSpec)

/-- ITS FALSE NEIGHBOUR: 'it returns false'. Refute it at one input. -/
def fnExactGoodTermWrong : ChangeSpec := { name := "fnExactGoodTerm", fn := fun _ => fun
  | [d1, d2, d3] => { results := [.lit (.bool false)], args := [d1, d2, d3] }
  | _ => none }
def FnExactGoodTermWrongFalsely : Prop := fnExactGoodTermRow.holds Try.pinned (OpenSpec.ofChange fnExactGoodTermWrong)

/-- 'laws.FnExactKindOf': WHATEVER THE INPUT: true; the input reads as it did. -/
def fnExactKindOfSpec : ChangeSpec := { name := "fnExactKindOf", fn := fun _ => fun
  | [d1, d2, d3] => { results := [.lit (.bool true)], args := [d1, d2, d3] }
  | _ => none }
def fnExactKindOfRow : OpenClaim := { program := "ythageckjjbgonaa", sum := "0b3a9b5185004587c4ee9cbe863f59bb152b28d47dca521475499d9d5eb863f1", func := "loop.example/g00649/laws.FnExactKindOf", spec := "fnExactKindOf", unfollowed := true, recurses := true, apart := false }
def FnExactKindOfSaid : Prop := fnExactKindOfRow.holds Try.pinned (OpenSpec.ofChange fnExactKindOfSpec)

/-- ITS FALSE NEIGHBOUR: 'it returns false'. Refute it at one input. -/
def fnExactKindOfWrong : ChangeSpec := { name := "fnExactKindOf", fn := fun _ => fun
  | [d1, d2, d3] => { results := [.lit (.bool false)], args := [d1, d2, d3] }
  | _ => none }
def FnExactKindOfWrongFalsely : Prop := fnExactKindOfRow.holds Try.pinned (OpenSpec.ofChange fnExactKindOfWrong)

/-- 'laws.FnExactIsPlain': WHATEVER THE INPUT: true; the input reads as it did. -/
def fnExactIsPlainSpec : ChangeSpec := { name := "fnExactIsPlain", fn := fun _ => fun
  | [d1, d2, d3] => { results := [.lit (.bool true)], args := [d1, d2, d3] }
  | _ => none }
def fnExactIsPlainRow : OpenClaim := { program := "ythageckjjbgonaa", sum := "0b3a9b5185004587c4ee9cbe863f59bb152b28d47dca521475499d9d5eb863f1", func := "loop.example/g00649/laws.FnExactIsPlain", spec := "fnExactIsPlain", unfollowed := true, recurses := true, apart := false }
def FnExactIsPlainSaid : Prop := fnExactIsPlainRow.holds Try.pinned (OpenSpec.ofChange fnExactIsPlainSpec)

/-- ITS FALSE NEIGHBOUR: 'it returns false'. Refute it at one input. -/
def fnExactIsPlainWrong : ChangeSpec := { name := "fnExactIsPlain", fn := fun _ => fun
  | [d1, d2, d3] => { results := [.lit (.bool false)], args := [d1, d2, d3] }
  | _ => none }
def FnExactIsPlainWrongFalsely : Prop := fnExactIsPlainRow.holds Try.pinned (OpenSpec.ofChange fnExactIsPlainWrong)

/-- 'laws.FnExactTurnTerm': WHATEVER THE INPUT: true; the input reads as it did. -/
def fnExactTurnTermSpec : ChangeSpec := { name := "fnExactTurnTerm", fn := fun _ => fun
  | [d1, d2, d3, d4] => { results := [.lit (.bool true)], args := [d1, d2, d3, d4] }
  | _ => none }
def fnExactTurnTermRow : OpenClaim := { program := "ythageckjjbgonaa", sum := "0b3a9b5185004587c4ee9cbe863f59bb152b28d47dca521475499d9d5eb863f1", func := "loop.example/g00649/laws.FnExactTurnTerm", spec := "fnExactTurnTerm", unfollowed := true, recurses := true, apart := false }
def FnExactTurnTermSaid : Prop := fnExactTurnTermRow.holds Try.pinned (OpenSpec.ofChange fnExactTurnTermSpec)

/-- ITS FALSE NEIGHBOUR: 'it returns false'. Refute it at one input. -/
def fnExactTurnTermWrong : ChangeSpec := { name := "fnExactTurnTerm", fn := fun _ => fun
  | [d1, d2, d3, d4] => { results := [.lit (.bool false)], args := [d1, d2, d3, d4] }
  | _ => none }
def FnExactTurnTermWrongFalsely : Prop := fnExactTurnTermRow.holds Try.pinned (OpenSpec.ofChange fnExactTurnTermWrong)

/-- 'laws.FnExactJoinTerms': WHATEVER THE INPUT: true; the input reads as it did. -/
def fnExactJoinTermsSpec : ChangeSpec := { name := "fnExactJoinTerms", fn := fun _ => fun
  | [d1, d2, d3, d4, d5] => { results := [.lit (.bool true)], args := [d1, d2, d3, d4, d5] }
  | _ => none }
def fnExactJoinTermsRow : OpenClaim := { program := "ythageckjjbgonaa", sum := "0b3a9b5185004587c4ee9cbe863f59bb152b28d47dca521475499d9d5eb863f1", func := "loop.example/g00649/laws.FnExactJoinTerms", spec := "fnExactJoinTerms", unfollowed := true, recurses := true, apart := false }
def FnExactJoinTermsSaid : Prop := fnExactJoinTermsRow.holds Try.pinned (OpenSpec.ofChange fnExactJoinTermsSpec)

/-- ITS FALSE NEIGHBOUR: 'it returns false'. Refute it at one input. -/
def fnExactJoinTermsWrong : ChangeSpec := { name := "fnExactJoinTerms", fn := fun _ => fun
  | [d1, d2, d3, d4, d5] => { results := [.lit (.bool false)], args := [d1, d2, d3, d4, d5] }
  | _ => none }
def FnExactJoinTermsWrongFalsely : Prop := fnExactJoinTermsRow.holds Try.pinned (OpenSpec.ofChange fnExactJoinTermsWrong)

/-- 'laws.FnExactVarsIn': WHATEVER THE INPUT: true; the input reads as it did. -/
def fnExactVarsInSpec : ChangeSpec := { name := "fnExactVarsIn", fn := fun _ => fun
  | [d1, d2, d3] => { results := [.lit (.bool true)], args := [d1, d2, d3] }
  | _ => none }
def fnExactVarsInRow : OpenClaim := { program := "ythageckjjbgonaa", sum := "0b3a9b5185004587c4ee9cbe863f59bb152b28d47dca521475499d9d5eb863f1", func := "loop.example/g00649/laws.FnExactVarsIn", spec := "fnExactVarsIn", unfollowed := true, recurses := true, apart := false }
def FnExactVarsInSaid : Prop := fnExactVarsInRow.holds Try.pinned (OpenSpec.ofChange fnExactVarsInSpec)

/-- ITS FALSE NEIGHBOUR: 'it returns false'. Refute it at one input. -/
def fnExactVarsInWrong : ChangeSpec := { name := "fnExactVarsIn", fn := fun _ => fun
  | [d1, d2, d3] => { results := [.lit (.bool false)], args := [d1, d2, d3] }
  | _ => none }
def FnExactVarsInWrongFalsely : Prop := fnExactVarsInRow.holds Try.pinned (OpenSpec.ofChange fnExactVarsInWrong)

/-- 'laws.FnExactDepthOf': WHATEVER THE INPUT: true; the input reads as it did. -/
def fnExactDepthOfSpec : ChangeSpec := { name := "fnExactDepthOf", fn := fun _ => fun
  | [d1, d2, d3] => { results := [.lit (.bool true)], args := [d1, d2, d3] }
  | _ => none }
def fnExactDepthOfRow : OpenClaim := { program := "ythageckjjbgonaa", sum := "0b3a9b5185004587c4ee9cbe863f59bb152b28d47dca521475499d9d5eb863f1", func := "loop.example/g00649/laws.FnExactDepthOf", spec := "fnExactDepthOf", unfollowed := true, recurses := true, apart := false }
def FnExactDepthOfSaid : Prop := fnExactDepthOfRow.holds Try.pinned (OpenSpec.ofChange fnExactDepthOfSpec)

/-- ITS FALSE NEIGHBOUR: 'it returns false'. Refute it at one input. -/
def fnExactDepthOfWrong : ChangeSpec := { name := "fnExactDepthOf", fn := fun _ => fun
  | [d1, d2, d3] => { results := [.lit (.bool false)], args := [d1, d2, d3] }
  | _ => none }
def FnExactDepthOfWrongFalsely : Prop := fnExactDepthOfRow.holds Try.pinned (OpenSpec.ofChange fnExactDepthOfWrong)

/- THE SECOND FORM. 'bulk': how many values and letters a reading holds, each counted each time it is reached (what is shared counts as often as it is met; a slice's spare places count too). A statement '..UptoSaid' is the law's where the arguments, and the package variables that the reading takes, are together of bulk at most 1048576: NARROWER than '..Said'. Prove '..Said' where nothing that the law and all that it calls make is longer than what came in: it says more and counts as full. Else prove '..UptoSaid'. A law counts once. -/
mutual
def uptoBulk {H : Type} : DataW H → Nat
  | .lit (.string bytes) => bytes.length + 1
  | .lit _ => 1
  | .nil => 1
  | .ptr d => uptoBulk d + 1
  | .slice elems spare => uptoBulkAll elems + uptoBulkAll spare + 1
  | .agg parts => uptoBulkAll parts + 1
  | .iface _ d => uptoBulk d + 1
  | .map entries => uptoBulkEntries entries + 1
  | .held _ => 1
def uptoBulkAll {H : Type} : List (DataW H) → Nat
  | [] => 0
  | d :: r => uptoBulk d + uptoBulkAll r
def uptoBulkEntries {H : Type} : List (Lit × DataW H) → Nat
  | [] => 0
  | x :: r => uptoBulkEntry x + uptoBulkEntries r
def uptoBulkEntry {H : Type} : Lit × DataW H → Nat
  | (.string bytes, d) => bytes.length + uptoBulk d + 1
  | (_, d) => uptoBulk d + 1
 end
def uptoSmall : (H : Type) → List (DataW H) → Bool := fun _ ds => decide (uptoBulkAll ds ≤ 1048576)
def OpenSpec.upto (s : _root_.Go.ChangeSpec) : _root_.Go.OpenSpec := { _root_.Go.OpenSpec.ofChange s with cond := some uptoSmall }

/-- 'laws.FnExactGoodTerm', WHERE WHAT IT READS IS OF BULK AT MOST 1048576: true; the input reads as it did. -/
def fnExactGoodTermUptoRow : OpenClaim := { program := "ythageckjjbgonaa", sum := "0b3a9b5185004587c4ee9cbe863f59bb152b28d47dca521475499d9d5eb863f1", func := "loop.example/g00649/laws.FnExactGoodTerm", spec := "fnExactGoodTerm", unfollowed := true, recurses := true, apart := false, narrowed := true }
def FnExactGoodTermUptoSaid : Prop := fnExactGoodTermUptoRow.holds Try.pinned (OpenSpec.upto fnExactGoodTermSpec)

/-- 'laws.FnExactKindOf', WHERE WHAT IT READS IS OF BULK AT MOST 1048576: true; the input reads as it did. -/
def fnExactKindOfUptoRow : OpenClaim := { program := "ythageckjjbgonaa", sum := "0b3a9b5185004587c4ee9cbe863f59bb152b28d47dca521475499d9d5eb863f1", func := "loop.example/g00649/laws.FnExactKindOf", spec := "fnExactKindOf", unfollowed := true, recurses := true, apart := false, narrowed := true }
def FnExactKindOfUptoSaid : Prop := fnExactKindOfUptoRow.holds Try.pinned (OpenSpec.upto fnExactKindOfSpec)

/-- 'laws.FnExactIsPlain', WHERE WHAT IT READS IS OF BULK AT MOST 1048576: true; the input reads as it did. -/
def fnExactIsPlainUptoRow : OpenClaim := { program := "ythageckjjbgonaa", sum := "0b3a9b5185004587c4ee9cbe863f59bb152b28d47dca521475499d9d5eb863f1", func := "loop.example/g00649/laws.FnExactIsPlain", spec := "fnExactIsPlain", unfollowed := true, recurses := true, apart := false, narrowed := true }
def FnExactIsPlainUptoSaid : Prop := fnExactIsPlainUptoRow.holds Try.pinned (OpenSpec.upto fnExactIsPlainSpec)

/-- 'laws.FnExactTurnTerm', WHERE WHAT IT READS IS OF BULK AT MOST 1048576: true; the input reads as it did. -/
def fnExactTurnTermUptoRow : OpenClaim := { program := "ythageckjjbgonaa", sum := "0b3a9b5185004587c4ee9cbe863f59bb152b28d47dca521475499d9d5eb863f1", func := "loop.example/g00649/laws.FnExactTurnTerm", spec := "fnExactTurnTerm", unfollowed := true, recurses := true, apart := false, narrowed := true }
def FnExactTurnTermUptoSaid : Prop := fnExactTurnTermUptoRow.holds Try.pinned (OpenSpec.upto fnExactTurnTermSpec)

/-- 'laws.FnExactJoinTerms', WHERE WHAT IT READS IS OF BULK AT MOST 1048576: true; the input reads as it did. -/
def fnExactJoinTermsUptoRow : OpenClaim := { program := "ythageckjjbgonaa", sum := "0b3a9b5185004587c4ee9cbe863f59bb152b28d47dca521475499d9d5eb863f1", func := "loop.example/g00649/laws.FnExactJoinTerms", spec := "fnExactJoinTerms", unfollowed := true, recurses := true, apart := false, narrowed := true }
def FnExactJoinTermsUptoSaid : Prop := fnExactJoinTermsUptoRow.holds Try.pinned (OpenSpec.upto fnExactJoinTermsSpec)

/-- 'laws.FnExactVarsIn', WHERE WHAT IT READS IS OF BULK AT MOST 1048576: true; the input reads as it did. -/
def fnExactVarsInUptoRow : OpenClaim := { program := "ythageckjjbgonaa", sum := "0b3a9b5185004587c4ee9cbe863f59bb152b28d47dca521475499d9d5eb863f1", func := "loop.example/g00649/laws.FnExactVarsIn", spec := "fnExactVarsIn", unfollowed := true, recurses := true, apart := false, narrowed := true }
def FnExactVarsInUptoSaid : Prop := fnExactVarsInUptoRow.holds Try.pinned (OpenSpec.upto fnExactVarsInSpec)

/-- 'laws.FnExactDepthOf', WHERE WHAT IT READS IS OF BULK AT MOST 1048576: true; the input reads as it did. -/
def fnExactDepthOfUptoRow : OpenClaim := { program := "ythageckjjbgonaa", sum := "0b3a9b5185004587c4ee9cbe863f59bb152b28d47dca521475499d9d5eb863f1", func := "loop.example/g00649/laws.FnExactDepthOf", spec := "fnExactDepthOf", unfollowed := true, recurses := true, apart := false, narrowed := true }
def FnExactDepthOfUptoSaid : Prop := fnExactDepthOfUptoRow.holds Try.pinned (OpenSpec.upto fnExactDepthOfSpec)

end Rows
end Go.Proofs.Ythageckjjbgonaa
