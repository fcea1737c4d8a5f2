/-
  No cell of these rows narrows 'for every input' (looked for: loops, veiled, ifaces, maps, wideKeys, modest, calm, conditions, laid).
  DERIVED. THE GIVEN ROWS OF THIS SEAT. 4 by the template 'for every input the law returns true; each argument reads behind the call as it read before'; 0 by the template 'total and deterministic' (their statements: YtckdgmbmjfhodaaTotals.lean).
  GIVEN WITH THE SEED: the statements are not yours to turn. If you find one false, say at which input.
  Laid BY PROGRAM, IN A SANDBOX (cutbox-rows.mjs): the forced cells as the released guide's own fill.sh prints them over the translation 20081f1e1f6543a4… (all of the seat's roots in one cut). By AI agents, Wed Nov 11 2026. No macro, syntax, notation, axiom, sorry.
-/
import Derived.Test.YtckdgmbmjfhodaaChecked
import GoSem.Claim
import GoSem.ClaimJoined
import GoSem.ClaimMapViews
import Derived.JoinedTies
import Derived.KernelRfl
namespace Go.Proofs.Ytckdgmbmjfhodaa
/- THE CELL 'sum', in the pinned program and in every row, IS THE sha256 OF THE DUMP (.gsa) THAT YtckdgmbmjfhodaaProg.lean LOADS. Nothing in Lean hashes anything: it is a label: what it is worth is what the hold of that sum in a sandbox is worth. -/
noncomputable def Try.pinned : Pinned := { name := "ytckdgmbmjfhodaa", sum := "20081f1e1f6543a49a4a09cc032b40a9af9720f33cc866b901e7e94997bc8853", checked := Try.checked }
namespace Rows
def none {H : Type} : Left H := { results := [], args := [] }

/-- 'laws.FnExactPutAll': WHATEVER THE INPUT: true; the input reads as it did. -/
def fnExactPutAllSpec : ChangeSpec := { name := "fnExactPutAll", fn := fun _ => fun
  | [d1, d2, d3, d4] => { results := [.lit (.bool true)], args := [d1, d2, d3, d4] }
  | _ => none }
def fnExactPutAllRow : OpenClaim := { program := "ytckdgmbmjfhodaa", sum := "20081f1e1f6543a49a4a09cc032b40a9af9720f33cc866b901e7e94997bc8853", func := "loop.example/g00649/laws.FnExactPutAll", spec := "fnExactPutAll", unfollowed := true, recurses := true, apart := false }
def FnExactPutAllSaid : Prop := fnExactPutAllRow.holds Try.pinned (OpenSpec.ofChange fnExactPutAllSpec)

/-- ITS FALSE NEIGHBOUR: 'it returns false'. Refute it at one input. -/
def fnExactPutAllWrong : ChangeSpec := { name := "fnExactPutAll", fn := fun _ => fun
  | [d1, d2, d3, d4] => { results := [.lit (.bool false)], args := [d1, d2, d3, d4] }
  | _ => none }
def FnExactPutAllWrongFalsely : Prop := fnExactPutAllRow.holds Try.pinned (OpenSpec.ofChange fnExactPutAllWrong)

/-- 'laws.FnExactValueOf': WHATEVER THE INPUT: true; the input reads as it did. -/
def fnExactValueOfSpec : ChangeSpec := { name := "fnExactValueOf", fn := fun _ => fun
  | [d1, d2, d3] => { results := [.lit (.bool true)], args := [d1, d2, d3] }
  | _ => none }
def fnExactValueOfRow : OpenClaim := { program := "ytckdgmbmjfhodaa", sum := "20081f1e1f6543a49a4a09cc032b40a9af9720f33cc866b901e7e94997bc8853", func := "loop.example/g00649/laws.FnExactValueOf", spec := "fnExactValueOf", unfollowed := true, recurses := true, named := ["math/bits.divideError", "math/bits.overflowError"], apart := false }
def FnExactValueOfSaid : Prop := fnExactValueOfRow.holds Try.pinned (OpenSpec.ofChange fnExactValueOfSpec)

/-- ITS FALSE NEIGHBOUR: 'it returns false'. Refute it at one input. -/
def fnExactValueOfWrong : ChangeSpec := { name := "fnExactValueOf", fn := fun _ => fun
  | [d1, d2, d3] => { results := [.lit (.bool false)], args := [d1, d2, d3] }
  | _ => none }
def FnExactValueOfWrongFalsely : Prop := fnExactValueOfRow.holds Try.pinned (OpenSpec.ofChange fnExactValueOfWrong)

/-- 'laws.FnExactFoldTerm': WHATEVER THE INPUT: true; the input reads as it did. -/
def fnExactFoldTermSpec : ChangeSpec := { name := "fnExactFoldTerm", fn := fun _ => fun
  | [d1, d2, d3] => { results := [.lit (.bool true)], args := [d1, d2, d3] }
  | _ => none }
def fnExactFoldTermRow : OpenClaim := { program := "ytckdgmbmjfhodaa", sum := "20081f1e1f6543a49a4a09cc032b40a9af9720f33cc866b901e7e94997bc8853", func := "loop.example/g00649/laws.FnExactFoldTerm", spec := "fnExactFoldTerm", unfollowed := true, recurses := true, named := ["math/bits.divideError", "math/bits.overflowError"], apart := false }
def FnExactFoldTermSaid : Prop := fnExactFoldTermRow.holds Try.pinned (OpenSpec.ofChange fnExactFoldTermSpec)

/-- ITS FALSE NEIGHBOUR: 'it returns false'. Refute it at one input. -/
def fnExactFoldTermWrong : ChangeSpec := { name := "fnExactFoldTerm", fn := fun _ => fun
  | [d1, d2, d3] => { results := [.lit (.bool false)], args := [d1, d2, d3] }
  | _ => none }
def FnExactFoldTermWrongFalsely : Prop := fnExactFoldTermRow.holds Try.pinned (OpenSpec.ofChange fnExactFoldTermWrong)

/-- 'laws.FnExactDivWord': WHATEVER THE INPUT: true; the input reads as it did. -/
def fnExactDivWordSpec : ChangeSpec := { name := "fnExactDivWord", fn := fun _ => fun
  | [d1, d2, d3] => { results := [.lit (.bool true)], args := [d1, d2, d3] }
  | _ => none }
def fnExactDivWordRow : OpenClaim := { program := "ytckdgmbmjfhodaa", sum := "20081f1e1f6543a49a4a09cc032b40a9af9720f33cc866b901e7e94997bc8853", func := "loop.example/g00649/laws.FnExactDivWord", spec := "fnExactDivWord", named := ["math/bits.divideError", "math/bits.overflowError"], apart := false }
def FnExactDivWordSaid : Prop := fnExactDivWordRow.holds Try.pinned (OpenSpec.ofChange fnExactDivWordSpec)

/-- ITS FALSE NEIGHBOUR: 'it returns false'. Refute it at one input. -/
def fnExactDivWordWrong : ChangeSpec := { name := "fnExactDivWord", fn := fun _ => fun
  | [d1, d2, d3] => { results := [.lit (.bool false)], args := [d1, d2, d3] }
  | _ => none }
def FnExactDivWordWrongFalsely : Prop := fnExactDivWordRow.holds Try.pinned (OpenSpec.ofChange fnExactDivWordWrong)

/- THE SECOND FORM. 'bulk': how many values and letters a reading holds, each counted each time it is reached (what is shared counts as often as it is met; a slice's spare places count too). A statement '..UptoSaid' is the law's where the arguments, and the package variables that the reading takes, are together of bulk at most 1048576: NARROWER than '..Said'. Prove '..Said' where nothing that the law and all that it calls make is longer than what came in: it says more and counts as full. Else prove '..UptoSaid'. A law counts once. -/
mutual
def uptoBulk {H : Type} : DataW H → Nat
  | .lit (.string bytes) => bytes.length + 1
  | .lit _ => 1
  | .nil => 1
  | .ptr d => uptoBulk d + 1
  | .slice elems spare => uptoBulkAll elems + uptoBulkAll spare + 1
  | .agg parts => uptoBulkAll parts + 1
  | .iface _ d => uptoBulk d + 1
  | .map entries => uptoBulkEntries entries + 1
  | .held _ => 1
def uptoBulkAll {H : Type} : List (DataW H) → Nat
  | [] => 0
  | d :: r => uptoBulk d + uptoBulkAll r
def uptoBulkEntries {H : Type} : List (Lit × DataW H) → Nat
  | [] => 0
  | x :: r => uptoBulkEntry x + uptoBulkEntries r
def uptoBulkEntry {H : Type} : Lit × DataW H → Nat
  | (.string bytes, d) => bytes.length + uptoBulk d + 1
  | (_, d) => uptoBulk d + 1
 end
def uptoSmall : (H : Type) → List (DataW H) → Bool := fun _ ds => decide (uptoBulkAll ds ≤ 1048576)
def OpenSpec.upto (s : _root_.Go.ChangeSpec) : _root_.Go.OpenSpec := { _root_.Go.OpenSpec.ofChange s with cond := some uptoSmall }

/-- 'laws.FnExactPutAll', WHERE WHAT IT READS IS OF BULK AT MOST 1048576: true; the input reads as it did. -/
def fnExactPutAllUptoRow : OpenClaim := { program := "ytckdgmbmjfhodaa", sum := "20081f1e1f6543a49a4a09cc032b40a9af9720f33cc866b901e7e94997bc8853", func := "loop.example/g00649/laws.FnExactPutAll", spec := "fnExactPutAll", unfollowed := true, recurses := true, apart := false, narrowed := true }
def FnExactPutAllUptoSaid : Prop := fnExactPutAllUptoRow.holds Try.pinned (OpenSpec.upto fnExactPutAllSpec)

/-- 'laws.FnExactValueOf', WHERE WHAT IT READS IS OF BULK AT MOST 1048576: true; the input reads as it did. -/
def fnExactValueOfUptoRow : OpenClaim := { program := "ytckdgmbmjfhodaa", sum := "20081f1e1f6543a49a4a09cc032b40a9af9720f33cc866b901e7e94997bc8853", func := "loop.example/g00649/laws.FnExactValueOf", spec := "fnExactValueOf", unfollowed := true, recurses := true, named := ["math/bits.divideError", "math/bits.overflowError"], apart := false, narrowed := true }
def FnExactValueOfUptoSaid : Prop := fnExactValueOfUptoRow.holds Try.pinned (OpenSpec.upto fnExactValueOfSpec)

/-- 'laws.FnExactFoldTerm', WHERE WHAT IT READS IS OF BULK AT MOST 1048576: true; the input reads as it did. -/
def fnExactFoldTermUptoRow : OpenClaim := { program := "ytckdgmbmjfhodaa", sum := "20081f1e1f6543a49a4a09cc032b40a9af9720f33cc866b901e7e94997bc8853", func := "loop.example/g00649/laws.FnExactFoldTerm", spec := "fnExactFoldTerm", unfollowed := true, recurses := true, named := ["math/bits.divideError", "math/bits.overflowError"], apart := false, narrowed := true }
def FnExactFoldTermUptoSaid : Prop := fnExactFoldTermUptoRow.holds Try.pinned (OpenSpec.upto fnExactFoldTermSpec)

/-- 'laws.FnExactDivWord', WHERE WHAT IT READS IS OF BULK AT MOST 1048576: true; the input reads as it did. -/
def fnExactDivWordUptoRow : OpenClaim := { program := "ytckdgmbmjfhodaa", sum := "20081f1e1f6543a49a4a09cc032b40a9af9720f33cc866b901e7e94997bc8853", func := "loop.example/g00649/laws.FnExactDivWord", spec := "fnExactDivWord", named := ["math/bits.divideError", "math/bits.overflowError"], apart := false, narrowed := true }
def FnExactDivWordUptoSaid : Prop := fnExactDivWordUptoRow.holds Try.pinned (OpenSpec.upto fnExactDivWordSpec)

end Rows
end Go.Proofs.Ytckdgmbmjfhodaa
