/-
  No cell of these rows narrows 'for every input' (looked for: loops, veiled, ifaces, maps, wideKeys, modest, calm, conditions, laid).
  DERIVED. THE GIVEN ROWS OF THIS SEAT. 12 by the template 'for every input the law returns true; each argument reads behind the call as it read before'; 0 by the template 'total and deterministic' (their statements: YtidkpohlemiabaaTotals.lean).
  GIVEN WITH THE SEED: the statements are not yours to turn. If you find one false, say at which input.
  Laid BY PROGRAM, IN A SANDBOX (cutbox-rows.mjs): the forced cells as the released guide's own fill.sh prints them over the translation e282fe5426015c71… (all of the seat's roots in one cut). By AI agents, Wed Nov 11 2026. No macro, syntax, notation, axiom, sorry.
-/
import Derived.Test.YtidkpohlemiabaaChecked
import GoSem.Claim
import GoSem.ClaimJoined
import GoSem.ClaimMapViews
import Derived.JoinedTies
import Derived.KernelRfl
namespace Go.Proofs.Ytidkpohlemiabaa
/- THE CELL 'sum', in the pinned program and in every row, IS THE sha256 OF THE DUMP (.gsa) THAT YtidkpohlemiabaaProg.lean LOADS. Nothing in Lean hashes anything: it is a label: what it is worth is what the hold of that sum in a sandbox is worth. -/
noncomputable def Try.pinned : Pinned := { name := "ytidkpohlemiabaa", sum := "e282fe5426015c71486d0bf390e2a8e2cc072053da79df9b1491968b37f3c56a", checked := Try.checked }
namespace Rows
def none {H : Type} : Left H := { results := [], args := [] }

/-- 'laws.FnExactConstants': WHATEVER THE INPUT: true; the input reads as it did. -/
def fnExactConstantsSpec : ChangeSpec := { name := "fnExactConstants", fn := fun _ => fun
  | [] => { results := [.lit (.bool true)], args := [] }
  | _ => none }
def fnExactConstantsRow : OpenClaim := { program := "ytidkpohlemiabaa", sum := "e282fe5426015c71486d0bf390e2a8e2cc072053da79df9b1491968b37f3c56a", func := "loop.example/g00649/laws.FnExactConstants", spec := "fnExactConstants", apart := false }
def FnExactConstantsSaid : Prop := fnExactConstantsRow.holds Try.pinned (OpenSpec.ofChange fnExactConstantsSpec)

/-- ITS FALSE NEIGHBOUR: 'it returns false'. Refute it at one input. -/
def fnExactConstantsWrong : ChangeSpec := { name := "fnExactConstants", fn := fun _ => fun
  | [] => { results := [.lit (.bool false)], args := [] }
  | _ => none }
def FnExactConstantsWrongFalsely : Prop := fnExactConstantsRow.holds Try.pinned (OpenSpec.ofChange fnExactConstantsWrong)

/-- 'laws.FnExactGoodWord': WHATEVER THE INPUT: true; the input reads as it did. -/
def fnExactGoodWordSpec : ChangeSpec := { name := "fnExactGoodWord", fn := fun _ => fun
  | [d1, d2] => { results := [.lit (.bool true)], args := [d1, d2] }
  | _ => none }
def fnExactGoodWordRow : OpenClaim := { program := "ytidkpohlemiabaa", sum := "e282fe5426015c71486d0bf390e2a8e2cc072053da79df9b1491968b37f3c56a", func := "loop.example/g00649/laws.FnExactGoodWord", spec := "fnExactGoodWord", apart := false }
def FnExactGoodWordSaid : Prop := fnExactGoodWordRow.holds Try.pinned (OpenSpec.ofChange fnExactGoodWordSpec)

/-- ITS FALSE NEIGHBOUR: 'it returns false'. Refute it at one input. -/
def fnExactGoodWordWrong : ChangeSpec := { name := "fnExactGoodWord", fn := fun _ => fun
  | [d1, d2] => { results := [.lit (.bool false)], args := [d1, d2] }
  | _ => none }
def FnExactGoodWordWrongFalsely : Prop := fnExactGoodWordRow.holds Try.pinned (OpenSpec.ofChange fnExactGoodWordWrong)

/-- 'laws.FnExactNameOf': WHATEVER THE INPUT: true; the input reads as it did. -/
def fnExactNameOfSpec : ChangeSpec := { name := "fnExactNameOf", fn := fun _ => fun
  | [d] => { results := [.lit (.bool true)], args := [d] }
  | _ => none }
def fnExactNameOfRow : OpenClaim := { program := "ytidkpohlemiabaa", sum := "e282fe5426015c71486d0bf390e2a8e2cc072053da79df9b1491968b37f3c56a", func := "loop.example/g00649/laws.FnExactNameOf", spec := "fnExactNameOf", apart := false }
def FnExactNameOfSaid : Prop := fnExactNameOfRow.holds Try.pinned (OpenSpec.ofChange fnExactNameOfSpec)

/-- ITS FALSE NEIGHBOUR: 'it returns false'. Refute it at one input. -/
def fnExactNameOfWrong : ChangeSpec := { name := "fnExactNameOf", fn := fun _ => fun
  | [d] => { results := [.lit (.bool false)], args := [d] }
  | _ => none }
def FnExactNameOfWrongFalsely : Prop := fnExactNameOfRow.holds Try.pinned (OpenSpec.ofChange fnExactNameOfWrong)

/-- 'laws.FnExactCutTo': WHATEVER THE INPUT: true; the input reads as it did. -/
def fnExactCutToSpec : ChangeSpec := { name := "fnExactCutTo", fn := fun _ => fun
  | [d1, d2] => { results := [.lit (.bool true)], args := [d1, d2] }
  | _ => none }
def fnExactCutToRow : OpenClaim := { program := "ytidkpohlemiabaa", sum := "e282fe5426015c71486d0bf390e2a8e2cc072053da79df9b1491968b37f3c56a", func := "loop.example/g00649/laws.FnExactCutTo", spec := "fnExactCutTo", apart := false }
def FnExactCutToSaid : Prop := fnExactCutToRow.holds Try.pinned (OpenSpec.ofChange fnExactCutToSpec)

/-- ITS FALSE NEIGHBOUR: 'it returns false'. Refute it at one input. -/
def fnExactCutToWrong : ChangeSpec := { name := "fnExactCutTo", fn := fun _ => fun
  | [d1, d2] => { results := [.lit (.bool false)], args := [d1, d2] }
  | _ => none }
def FnExactCutToWrongFalsely : Prop := fnExactCutToRow.holds Try.pinned (OpenSpec.ofChange fnExactCutToWrong)

/-- 'laws.FnExactFromSigned': WHATEVER THE INPUT: true; the input reads as it did. -/
def fnExactFromSignedSpec : ChangeSpec := { name := "fnExactFromSigned", fn := fun _ => fun
  | [d1, d2] => { results := [.lit (.bool true)], args := [d1, d2] }
  | _ => none }
def fnExactFromSignedRow : OpenClaim := { program := "ytidkpohlemiabaa", sum := "e282fe5426015c71486d0bf390e2a8e2cc072053da79df9b1491968b37f3c56a", func := "loop.example/g00649/laws.FnExactFromSigned", spec := "fnExactFromSigned", apart := false }
def FnExactFromSignedSaid : Prop := fnExactFromSignedRow.holds Try.pinned (OpenSpec.ofChange fnExactFromSignedSpec)

/-- ITS FALSE NEIGHBOUR: 'it returns false'. Refute it at one input. -/
def fnExactFromSignedWrong : ChangeSpec := { name := "fnExactFromSigned", fn := fun _ => fun
  | [d1, d2] => { results := [.lit (.bool false)], args := [d1, d2] }
  | _ => none }
def FnExactFromSignedWrongFalsely : Prop := fnExactFromSignedRow.holds Try.pinned (OpenSpec.ofChange fnExactFromSignedWrong)

/-- 'laws.FnExactFlipWord': WHATEVER THE INPUT: true; the input reads as it did. -/
def fnExactFlipWordSpec : ChangeSpec := { name := "fnExactFlipWord", fn := fun _ => fun
  | [d1, d2] => { results := [.lit (.bool true)], args := [d1, d2] }
  | _ => none }
def fnExactFlipWordRow : OpenClaim := { program := "ytidkpohlemiabaa", sum := "e282fe5426015c71486d0bf390e2a8e2cc072053da79df9b1491968b37f3c56a", func := "loop.example/g00649/laws.FnExactFlipWord", spec := "fnExactFlipWord", apart := false }
def FnExactFlipWordSaid : Prop := fnExactFlipWordRow.holds Try.pinned (OpenSpec.ofChange fnExactFlipWordSpec)

/-- ITS FALSE NEIGHBOUR: 'it returns false'. Refute it at one input. -/
def fnExactFlipWordWrong : ChangeSpec := { name := "fnExactFlipWord", fn := fun _ => fun
  | [d1, d2] => { results := [.lit (.bool false)], args := [d1, d2] }
  | _ => none }
def FnExactFlipWordWrongFalsely : Prop := fnExactFlipWordRow.holds Try.pinned (OpenSpec.ofChange fnExactFlipWordWrong)

/-- 'laws.FnExactAddWord': WHATEVER THE INPUT: true; the input reads as it did. -/
def fnExactAddWordSpec : ChangeSpec := { name := "fnExactAddWord", fn := fun _ => fun
  | [d1, d2, d3] => { results := [.lit (.bool true)], args := [d1, d2, d3] }
  | _ => none }
def fnExactAddWordRow : OpenClaim := { program := "ytidkpohlemiabaa", sum := "e282fe5426015c71486d0bf390e2a8e2cc072053da79df9b1491968b37f3c56a", func := "loop.example/g00649/laws.FnExactAddWord", spec := "fnExactAddWord", apart := false }
def FnExactAddWordSaid : Prop := fnExactAddWordRow.holds Try.pinned (OpenSpec.ofChange fnExactAddWordSpec)

/-- ITS FALSE NEIGHBOUR: 'it returns false'. Refute it at one input. -/
def fnExactAddWordWrong : ChangeSpec := { name := "fnExactAddWord", fn := fun _ => fun
  | [d1, d2, d3] => { results := [.lit (.bool false)], args := [d1, d2, d3] }
  | _ => none }
def FnExactAddWordWrongFalsely : Prop := fnExactAddWordRow.holds Try.pinned (OpenSpec.ofChange fnExactAddWordWrong)

/-- 'laws.FnExactMulWord': WHATEVER THE INPUT: true; the input reads as it did. -/
def fnExactMulWordSpec : ChangeSpec := { name := "fnExactMulWord", fn := fun _ => fun
  | [d1, d2, d3] => { results := [.lit (.bool true)], args := [d1, d2, d3] }
  | _ => none }
def fnExactMulWordRow : OpenClaim := { program := "ytidkpohlemiabaa", sum := "e282fe5426015c71486d0bf390e2a8e2cc072053da79df9b1491968b37f3c56a", func := "loop.example/g00649/laws.FnExactMulWord", spec := "fnExactMulWord", apart := false }
def FnExactMulWordSaid : Prop := fnExactMulWordRow.holds Try.pinned (OpenSpec.ofChange fnExactMulWordSpec)

/-- ITS FALSE NEIGHBOUR: 'it returns false'. Refute it at one input. -/
def fnExactMulWordWrong : ChangeSpec := { name := "fnExactMulWord", fn := fun _ => fun
  | [d1, d2, d3] => { results := [.lit (.bool false)], args := [d1, d2, d3] }
  | _ => none }
def FnExactMulWordWrongFalsely : Prop := fnExactMulWordRow.holds Try.pinned (OpenSpec.ofChange fnExactMulWordWrong)

/-- 'laws.FnExactSubWord': WHATEVER THE INPUT: true; the input reads as it did. -/
def fnExactSubWordSpec : ChangeSpec := { name := "fnExactSubWord", fn := fun _ => fun
  | [d1, d2, d3] => { results := [.lit (.bool true)], args := [d1, d2, d3] }
  | _ => none }
def fnExactSubWordRow : OpenClaim := { program := "ytidkpohlemiabaa", sum := "e282fe5426015c71486d0bf390e2a8e2cc072053da79df9b1491968b37f3c56a", func := "loop.example/g00649/laws.FnExactSubWord", spec := "fnExactSubWord", apart := false }
def FnExactSubWordSaid : Prop := fnExactSubWordRow.holds Try.pinned (OpenSpec.ofChange fnExactSubWordSpec)

/-- ITS FALSE NEIGHBOUR: 'it returns false'. Refute it at one input. -/
def fnExactSubWordWrong : ChangeSpec := { name := "fnExactSubWord", fn := fun _ => fun
  | [d1, d2, d3] => { results := [.lit (.bool false)], args := [d1, d2, d3] }
  | _ => none }
def FnExactSubWordWrongFalsely : Prop := fnExactSubWordRow.holds Try.pinned (OpenSpec.ofChange fnExactSubWordWrong)

/-- 'laws.FnExactSignedOf': WHATEVER THE INPUT: true; the input reads as it did. -/
def fnExactSignedOfSpec : ChangeSpec := { name := "fnExactSignedOf", fn := fun _ => fun
  | [d1, d2] => { results := [.lit (.bool true)], args := [d1, d2] }
  | _ => none }
def fnExactSignedOfRow : OpenClaim := { program := "ytidkpohlemiabaa", sum := "e282fe5426015c71486d0bf390e2a8e2cc072053da79df9b1491968b37f3c56a", func := "loop.example/g00649/laws.FnExactSignedOf", spec := "fnExactSignedOf", apart := false }
def FnExactSignedOfSaid : Prop := fnExactSignedOfRow.holds Try.pinned (OpenSpec.ofChange fnExactSignedOfSpec)

/-- ITS FALSE NEIGHBOUR: 'it returns false'. Refute it at one input. -/
def fnExactSignedOfWrong : ChangeSpec := { name := "fnExactSignedOf", fn := fun _ => fun
  | [d1, d2] => { results := [.lit (.bool false)], args := [d1, d2] }
  | _ => none }
def FnExactSignedOfWrongFalsely : Prop := fnExactSignedOfRow.holds Try.pinned (OpenSpec.ofChange fnExactSignedOfWrong)

/-- 'laws.FnExactLessSigned': WHATEVER THE INPUT: true; the input reads as it did. -/
def fnExactLessSignedSpec : ChangeSpec := { name := "fnExactLessSigned", fn := fun _ => fun
  | [d1, d2, d3] => { results := [.lit (.bool true)], args := [d1, d2, d3] }
  | _ => none }
def fnExactLessSignedRow : OpenClaim := { program := "ytidkpohlemiabaa", sum := "e282fe5426015c71486d0bf390e2a8e2cc072053da79df9b1491968b37f3c56a", func := "loop.example/g00649/laws.FnExactLessSigned", spec := "fnExactLessSigned", apart := false }
def FnExactLessSignedSaid : Prop := fnExactLessSignedRow.holds Try.pinned (OpenSpec.ofChange fnExactLessSignedSpec)

/-- ITS FALSE NEIGHBOUR: 'it returns false'. Refute it at one input. -/
def fnExactLessSignedWrong : ChangeSpec := { name := "fnExactLessSigned", fn := fun _ => fun
  | [d1, d2, d3] => { results := [.lit (.bool false)], args := [d1, d2, d3] }
  | _ => none }
def FnExactLessSignedWrongFalsely : Prop := fnExactLessSignedRow.holds Try.pinned (OpenSpec.ofChange fnExactLessSignedWrong)

/-- 'laws.FnExactShiftWord': WHATEVER THE INPUT: true; the input reads as it did. -/
def fnExactShiftWordSpec : ChangeSpec := { name := "fnExactShiftWord", fn := fun _ => fun
  | [d1, d2, d3, d4] => { results := [.lit (.bool true)], args := [d1, d2, d3, d4] }
  | _ => none }
def fnExactShiftWordRow : OpenClaim := { program := "ytidkpohlemiabaa", sum := "e282fe5426015c71486d0bf390e2a8e2cc072053da79df9b1491968b37f3c56a", func := "loop.example/g00649/laws.FnExactShiftWord", spec := "fnExactShiftWord", apart := false }
def FnExactShiftWordSaid : Prop := fnExactShiftWordRow.holds Try.pinned (OpenSpec.ofChange fnExactShiftWordSpec)

/-- ITS FALSE NEIGHBOUR: 'it returns false'. Refute it at one input. -/
def fnExactShiftWordWrong : ChangeSpec := { name := "fnExactShiftWord", fn := fun _ => fun
  | [d1, d2, d3, d4] => { results := [.lit (.bool false)], args := [d1, d2, d3, d4] }
  | _ => none }
def FnExactShiftWordWrongFalsely : Prop := fnExactShiftWordRow.holds Try.pinned (OpenSpec.ofChange fnExactShiftWordWrong)

/- THE SECOND FORM. 'bulk': how many values and letters a reading holds, each counted each time it is reached (what is shared counts as often as it is met; a slice's spare places count too). A statement '..UptoSaid' is the law's where the arguments, and the package variables that the reading takes, are together of bulk at most 1048576: NARROWER than '..Said'. Prove '..Said' where nothing that the law and all that it calls make is longer than what came in: it says more and counts as full. Else prove '..UptoSaid'. A law counts once. -/
mutual
def uptoBulk {H : Type} : DataW H → Nat
  | .lit (.string bytes) => bytes.length + 1
  | .lit _ => 1
  | .nil => 1
  | .ptr d => uptoBulk d + 1
  | .slice elems spare => uptoBulkAll elems + uptoBulkAll spare + 1
  | .agg parts => uptoBulkAll parts + 1
  | .iface _ d => uptoBulk d + 1
  | .map entries => uptoBulkEntries entries + 1
  | .held _ => 1
def uptoBulkAll {H : Type} : List (DataW H) → Nat
  | [] => 0
  | d :: r => uptoBulk d + uptoBulkAll r
def uptoBulkEntries {H : Type} : List (Lit × DataW H) → Nat
  | [] => 0
  | x :: r => uptoBulkEntry x + uptoBulkEntries r
def uptoBulkEntry {H : Type} : Lit × DataW H → Nat
  | (.string bytes, d) => bytes.length + uptoBulk d + 1
  | (_, d) => uptoBulk d + 1
 end
def uptoSmall : (H : Type) → List (DataW H) → Bool := fun _ ds => decide (uptoBulkAll ds ≤ 1048576)
def OpenSpec.upto (s : _root_.Go.ChangeSpec) : _root_.Go.OpenSpec := { _root_.Go.OpenSpec.ofChange s with cond := some uptoSmall }

/-- 'laws.FnExactConstants', WHERE WHAT IT READS IS OF BULK AT MOST 1048576: true; the input reads as it did. -/
def fnExactConstantsUptoRow : OpenClaim := { program := "ytidkpohlemiabaa", sum := "e282fe5426015c71486d0bf390e2a8e2cc072053da79df9b1491968b37f3c56a", func := "loop.example/g00649/laws.FnExactConstants", spec := "fnExactConstants", apart := false, narrowed := true }
def FnExactConstantsUptoSaid : Prop := fnExactConstantsUptoRow.holds Try.pinned (OpenSpec.upto fnExactConstantsSpec)

/-- 'laws.FnExactGoodWord', WHERE WHAT IT READS IS OF BULK AT MOST 1048576: true; the input reads as it did. -/
def fnExactGoodWordUptoRow : OpenClaim := { program := "ytidkpohlemiabaa", sum := "e282fe5426015c71486d0bf390e2a8e2cc072053da79df9b1491968b37f3c56a", func := "loop.example/g00649/laws.FnExactGoodWord", spec := "fnExactGoodWord", apart := false, narrowed := true }
def FnExactGoodWordUptoSaid : Prop := fnExactGoodWordUptoRow.holds Try.pinned (OpenSpec.upto fnExactGoodWordSpec)

/-- 'laws.FnExactNameOf', WHERE WHAT IT READS IS OF BULK AT MOST 1048576: true; the input reads as it did. -/
def fnExactNameOfUptoRow : OpenClaim := { program := "ytidkpohlemiabaa", sum := "e282fe5426015c71486d0bf390e2a8e2cc072053da79df9b1491968b37f3c56a", func := "loop.example/g00649/laws.FnExactNameOf", spec := "fnExactNameOf", apart := false, narrowed := true }
def FnExactNameOfUptoSaid : Prop := fnExactNameOfUptoRow.holds Try.pinned (OpenSpec.upto fnExactNameOfSpec)

/-- 'laws.FnExactCutTo', WHERE WHAT IT READS IS OF BULK AT MOST 1048576: true; the input reads as it did. -/
def fnExactCutToUptoRow : OpenClaim := { program := "ytidkpohlemiabaa", sum := "e282fe5426015c71486d0bf390e2a8e2cc072053da79df9b1491968b37f3c56a", func := "loop.example/g00649/laws.FnExactCutTo", spec := "fnExactCutTo", apart := false, narrowed := true }
def FnExactCutToUptoSaid : Prop := fnExactCutToUptoRow.holds Try.pinned (OpenSpec.upto fnExactCutToSpec)

/-- 'laws.FnExactFromSigned', WHERE WHAT IT READS IS OF BULK AT MOST 1048576: true; the input reads as it did. -/
def fnExactFromSignedUptoRow : OpenClaim := { program := "ytidkpohlemiabaa", sum := "e282fe5426015c71486d0bf390e2a8e2cc072053da79df9b1491968b37f3c56a", func := "loop.example/g00649/laws.FnExactFromSigned", spec := "fnExactFromSigned", apart := false, narrowed := true }
def FnExactFromSignedUptoSaid : Prop := fnExactFromSignedUptoRow.holds Try.pinned (OpenSpec.upto fnExactFromSignedSpec)

/-- 'laws.FnExactFlipWord', WHERE WHAT IT READS IS OF BULK AT MOST 1048576: true; the input reads as it did. -/
def fnExactFlipWordUptoRow : OpenClaim := { program := "ytidkpohlemiabaa", sum := "e282fe5426015c71486d0bf390e2a8e2cc072053da79df9b1491968b37f3c56a", func := "loop.example/g00649/laws.FnExactFlipWord", spec := "fnExactFlipWord", apart := false, narrowed := true }
def FnExactFlipWordUptoSaid : Prop := fnExactFlipWordUptoRow.holds Try.pinned (OpenSpec.upto fnExactFlipWordSpec)

/-- 'laws.FnExactAddWord', WHERE WHAT IT READS IS OF BULK AT MOST 1048576: true; the input reads as it did. -/
def fnExactAddWordUptoRow : OpenClaim := { program := "ytidkpohlemiabaa", sum := "e282fe5426015c71486d0bf390e2a8e2cc072053da79df9b1491968b37f3c56a", func := "loop.example/g00649/laws.FnExactAddWord", spec := "fnExactAddWord", apart := false, narrowed := true }
def FnExactAddWordUptoSaid : Prop := fnExactAddWordUptoRow.holds Try.pinned (OpenSpec.upto fnExactAddWordSpec)

/-- 'laws.FnExactMulWord', WHERE WHAT IT READS IS OF BULK AT MOST 1048576: true; the input reads as it did. -/
def fnExactMulWordUptoRow : OpenClaim := { program := "ytidkpohlemiabaa", sum := "e282fe5426015c71486d0bf390e2a8e2cc072053da79df9b1491968b37f3c56a", func := "loop.example/g00649/laws.FnExactMulWord", spec := "fnExactMulWord", apart := false, narrowed := true }
def FnExactMulWordUptoSaid : Prop := fnExactMulWordUptoRow.holds Try.pinned (OpenSpec.upto fnExactMulWordSpec)

/-- 'laws.FnExactSubWord', WHERE WHAT IT READS IS OF BULK AT MOST 1048576: true; the input reads as it did. -/
def fnExactSubWordUptoRow : OpenClaim := { program := "ytidkpohlemiabaa", sum := "e282fe5426015c71486d0bf390e2a8e2cc072053da79df9b1491968b37f3c56a", func := "loop.example/g00649/laws.FnExactSubWord", spec := "fnExactSubWord", apart := false, narrowed := true }
def FnExactSubWordUptoSaid : Prop := fnExactSubWordUptoRow.holds Try.pinned (OpenSpec.upto fnExactSubWordSpec)

/-- 'laws.FnExactSignedOf', WHERE WHAT IT READS IS OF BULK AT MOST 1048576: true; the input reads as it did. -/
def fnExactSignedOfUptoRow : OpenClaim := { program := "ytidkpohlemiabaa", sum := "e282fe5426015c71486d0bf390e2a8e2cc072053da79df9b1491968b37f3c56a", func := "loop.example/g00649/laws.FnExactSignedOf", spec := "fnExactSignedOf", apart := false, narrowed := true }
def FnExactSignedOfUptoSaid : Prop := fnExactSignedOfUptoRow.holds Try.pinned (OpenSpec.upto fnExactSignedOfSpec)

/-- 'laws.FnExactLessSigned', WHERE WHAT IT READS IS OF BULK AT MOST 1048576: true; the input reads as it did. -/
def fnExactLessSignedUptoRow : OpenClaim := { program := "ytidkpohlemiabaa", sum := "e282fe5426015c71486d0bf390e2a8e2cc072053da79df9b1491968b37f3c56a", func := "loop.example/g00649/laws.FnExactLessSigned", spec := "fnExactLessSigned", apart := false, narrowed := true }
def FnExactLessSignedUptoSaid : Prop := fnExactLessSignedUptoRow.holds Try.pinned (OpenSpec.upto fnExactLessSignedSpec)

/-- 'laws.FnExactShiftWord', WHERE WHAT IT READS IS OF BULK AT MOST 1048576: true; the input reads as it did. -/
def fnExactShiftWordUptoRow : OpenClaim := { program := "ytidkpohlemiabaa", sum := "e282fe5426015c71486d0bf390e2a8e2cc072053da79df9b1491968b37f3c56a", func := "loop.example/g00649/laws.FnExactShiftWord", spec := "fnExactShiftWord", apart := false, narrowed := true }
def FnExactShiftWordUptoSaid : Prop := fnExactShiftWordUptoRow.holds Try.pinned (OpenSpec.upto fnExactShiftWordSpec)

end Rows
end Go.Proofs.Ytidkpohlemiabaa
