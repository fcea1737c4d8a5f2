/-
  No cell of these rows narrows 'for every input' (looked for: loops, veiled, ifaces, maps, wideKeys, modest, calm, conditions, laid).
  DERIVED. THE GIVEN ROWS OF THIS SEAT. 6 by the template 'for every input the law returns true; each argument reads behind the call as it read before'; 0 by the template 'total and deterministic' (their statements: YtdmngodinbelfaaTotals.lean).
  GIVEN WITH THE SEED: the statements are not yours to turn. If you find one false, say at which input.
  Laid BY PROGRAM, IN A SANDBOX (cutbox-rows.mjs): the forced cells as the released guide's own fill.sh prints them over the translation 3abf258f0bd87057… (all of the seat's roots in one cut). By AI agents, Wed Nov 11 2026. No macro, syntax, notation, axiom, sorry.
-/
import Derived.Test.YtdmngodinbelfaaChecked
import GoSem.Claim
import GoSem.ClaimJoined
import GoSem.ClaimMapViews
import Derived.JoinedTies
import Derived.KernelRfl
namespace Go.Proofs.Ytdmngodinbelfaa
/- THE CELL 'sum', in the pinned program and in every row, IS THE sha256 OF THE DUMP (.gsa) THAT YtdmngodinbelfaaProg.lean LOADS. Nothing in Lean hashes anything: it is a label: what it is worth is what the hold of that sum in a sandbox is worth. -/
noncomputable def Try.pinned : Pinned := { name := "ytdmngodinbelfaa", sum := "3abf258f0bd87057a7b0fb5acf6928d2b4c73eed241dcfca2a100fdce2b53e74", checked := Try.checked }
namespace Rows
def none {H : Type} : Left H := { results := [], args := [] }

/-- 'laws.FnExactGoodCnf': WHATEVER THE INPUT: true; the input reads as it did. -/
def fnExactGoodCnfSpec : ChangeSpec := { name := "fnExactGoodCnf", fn := fun _ => fun
  | [d] => { results := [.lit (.bool true)], args := [d] }
  | _ => none }
def fnExactGoodCnfRow : OpenClaim := { program := "ytdmngodinbelfaa", sum := "3abf258f0bd87057a7b0fb5acf6928d2b4c73eed241dcfca2a100fdce2b53e74", func := "loop.example/g00649/laws.FnExactGoodCnf", spec := "fnExactGoodCnf", unfollowed := true, recurses := true, apart := false }
def FnExactGoodCnfSaid : Prop := fnExactGoodCnfRow.holds Try.pinned (OpenSpec.ofChange fnExactGoodCnfSpec)

/-- ITS FALSE NEIGHBOUR: 'it returns false'. Refute it at one input. -/
def fnExactGoodCnfWrong : ChangeSpec := { name := "fnExactGoodCnf", fn := fun _ => fun
  | [d] => { results := [.lit (.bool false)], args := [d] }
  | _ => none }
def FnExactGoodCnfWrongFalsely : Prop := fnExactGoodCnfRow.holds Try.pinned (OpenSpec.ofChange fnExactGoodCnfWrong)

/-- 'laws.FnExactMeets': WHATEVER THE INPUT: true; the input reads as it did. -/
def fnExactMeetsSpec : ChangeSpec := { name := "fnExactMeets", fn := fun _ => fun
  | [d1, d2] => { results := [.lit (.bool true)], args := [d1, d2] }
  | _ => none }
def fnExactMeetsRow : OpenClaim := { program := "ytdmngodinbelfaa", sum := "3abf258f0bd87057a7b0fb5acf6928d2b4c73eed241dcfca2a100fdce2b53e74", func := "loop.example/g00649/laws.FnExactMeets", spec := "fnExactMeets", unfollowed := true, recurses := true, apart := false }
def FnExactMeetsSaid : Prop := fnExactMeetsRow.holds Try.pinned (OpenSpec.ofChange fnExactMeetsSpec)

/-- ITS FALSE NEIGHBOUR: 'it returns false'. Refute it at one input. -/
def fnExactMeetsWrong : ChangeSpec := { name := "fnExactMeets", fn := fun _ => fun
  | [d1, d2] => { results := [.lit (.bool false)], args := [d1, d2] }
  | _ => none }
def FnExactMeetsWrongFalsely : Prop := fnExactMeetsRow.holds Try.pinned (OpenSpec.ofChange fnExactMeetsWrong)

/-- 'laws.FnExactCountOf': WHATEVER THE INPUT: true; the input reads as it did. -/
def fnExactCountOfSpec : ChangeSpec := { name := "fnExactCountOf", fn := fun _ => fun
  | [d] => { results := [.lit (.bool true)], args := [d] }
  | _ => none }
def fnExactCountOfRow : OpenClaim := { program := "ytdmngodinbelfaa", sum := "3abf258f0bd87057a7b0fb5acf6928d2b4c73eed241dcfca2a100fdce2b53e74", func := "loop.example/g00649/laws.FnExactCountOf", spec := "fnExactCountOf", unfollowed := true, recurses := true, apart := false }
def FnExactCountOfSaid : Prop := fnExactCountOfRow.holds Try.pinned (OpenSpec.ofChange fnExactCountOfSpec)

/-- ITS FALSE NEIGHBOUR: 'it returns false'. Refute it at one input. -/
def fnExactCountOfWrong : ChangeSpec := { name := "fnExactCountOf", fn := fun _ => fun
  | [d] => { results := [.lit (.bool false)], args := [d] }
  | _ => none }
def FnExactCountOfWrongFalsely : Prop := fnExactCountOfRow.holds Try.pinned (OpenSpec.ofChange fnExactCountOfWrong)

/-- 'laws.FnExactForced': WHATEVER THE INPUT: true; the input reads as it did. -/
def fnExactForcedSpec : ChangeSpec := { name := "fnExactForced", fn := fun _ => fun
  | [d1, d2] => { results := [.lit (.bool true)], args := [d1, d2] }
  | _ => none }
def fnExactForcedRow : OpenClaim := { program := "ytdmngodinbelfaa", sum := "3abf258f0bd87057a7b0fb5acf6928d2b4c73eed241dcfca2a100fdce2b53e74", func := "loop.example/g00649/laws.FnExactForced", spec := "fnExactForced", unfollowed := true, recurses := true, apart := false }
def FnExactForcedSaid : Prop := fnExactForcedRow.holds Try.pinned (OpenSpec.ofChange fnExactForcedSpec)

/-- ITS FALSE NEIGHBOUR: 'it returns false'. Refute it at one input. -/
def fnExactForcedWrong : ChangeSpec := { name := "fnExactForced", fn := fun _ => fun
  | [d1, d2] => { results := [.lit (.bool false)], args := [d1, d2] }
  | _ => none }
def FnExactForcedWrongFalsely : Prop := fnExactForcedRow.holds Try.pinned (OpenSpec.ofChange fnExactForcedWrong)

/-- 'laws.FnExactSolve': WHATEVER THE INPUT: true; the input reads as it did. -/
def fnExactSolveSpec : ChangeSpec := { name := "fnExactSolve", fn := fun _ => fun
  | [d1, d2] => { results := [.lit (.bool true)], args := [d1, d2] }
  | _ => none }
def fnExactSolveRow : OpenClaim := { program := "ytdmngodinbelfaa", sum := "3abf258f0bd87057a7b0fb5acf6928d2b4c73eed241dcfca2a100fdce2b53e74", func := "loop.example/g00649/laws.FnExactSolve", spec := "fnExactSolve", unfollowed := true, recurses := true, apart := false }
def FnExactSolveSaid : Prop := fnExactSolveRow.holds Try.pinned (OpenSpec.ofChange fnExactSolveSpec)

/-- ITS FALSE NEIGHBOUR: 'it returns false'. Refute it at one input. -/
def fnExactSolveWrong : ChangeSpec := { name := "fnExactSolve", fn := fun _ => fun
  | [d1, d2] => { results := [.lit (.bool false)], args := [d1, d2] }
  | _ => none }
def FnExactSolveWrongFalsely : Prop := fnExactSolveRow.holds Try.pinned (OpenSpec.ofChange fnExactSolveWrong)

/-- 'laws.FnExactResolveOn': WHATEVER THE INPUT: true; the input reads as it did. -/
def fnExactResolveOnSpec : ChangeSpec := { name := "fnExactResolveOn", fn := fun _ => fun
  | [d1, d2, d3] => { results := [.lit (.bool true)], args := [d1, d2, d3] }
  | _ => none }
def fnExactResolveOnRow : OpenClaim := { program := "ytdmngodinbelfaa", sum := "3abf258f0bd87057a7b0fb5acf6928d2b4c73eed241dcfca2a100fdce2b53e74", func := "loop.example/g00649/laws.FnExactResolveOn", spec := "fnExactResolveOn", unfollowed := true, recurses := true, apart := false }
def FnExactResolveOnSaid : Prop := fnExactResolveOnRow.holds Try.pinned (OpenSpec.ofChange fnExactResolveOnSpec)

/-- ITS FALSE NEIGHBOUR: 'it returns false'. Refute it at one input. -/
def fnExactResolveOnWrong : ChangeSpec := { name := "fnExactResolveOn", fn := fun _ => fun
  | [d1, d2, d3] => { results := [.lit (.bool false)], args := [d1, d2, d3] }
  | _ => none }
def FnExactResolveOnWrongFalsely : Prop := fnExactResolveOnRow.holds Try.pinned (OpenSpec.ofChange fnExactResolveOnWrong)

/- THE SECOND FORM. 'bulk': how many values and letters a reading holds, each counted each time it is reached (what is shared counts as often as it is met; a slice's spare places count too). A statement '..UptoSaid' is the law's where the arguments, and the package variables that the reading takes, are together of bulk at most 1048576: NARROWER than '..Said'. Prove '..Said' where nothing that the law and all that it calls make is longer than what came in: it says more and counts as full. Else prove '..UptoSaid'. A law counts once. -/
mutual
def uptoBulk {H : Type} : DataW H → Nat
  | .lit (.string bytes) => bytes.length + 1
  | .lit _ => 1
  | .nil => 1
  | .ptr d => uptoBulk d + 1
  | .slice elems spare => uptoBulkAll elems + uptoBulkAll spare + 1
  | .agg parts => uptoBulkAll parts + 1
  | .iface _ d => uptoBulk d + 1
  | .map entries => uptoBulkEntries entries + 1
  | .held _ => 1
def uptoBulkAll {H : Type} : List (DataW H) → Nat
  | [] => 0
  | d :: r => uptoBulk d + uptoBulkAll r
def uptoBulkEntries {H : Type} : List (Lit × DataW H) → Nat
  | [] => 0
  | x :: r => uptoBulkEntry x + uptoBulkEntries r
def uptoBulkEntry {H : Type} : Lit × DataW H → Nat
  | (.string bytes, d) => bytes.length + uptoBulk d + 1
  | (_, d) => uptoBulk d + 1
 end
def uptoSmall : (H : Type) → List (DataW H) → Bool := fun _ ds => decide (uptoBulkAll ds ≤ 1048576)
def OpenSpec.upto (s : _root_.Go.ChangeSpec) : _root_.Go.OpenSpec := { _root_.Go.OpenSpec.ofChange s with cond := some uptoSmall }

/-- 'laws.FnExactGoodCnf', WHERE WHAT IT READS IS OF BULK AT MOST 1048576: true; the input reads as it did. -/
def fnExactGoodCnfUptoRow : OpenClaim := { program := "ytdmngodinbelfaa", sum := "3abf258f0bd87057a7b0fb5acf6928d2b4c73eed241dcfca2a100fdce2b53e74", func := "loop.example/g00649/laws.FnExactGoodCnf", spec := "fnExactGoodCnf", unfollowed := true, recurses := true, apart := false, narrowed := true }
def FnExactGoodCnfUptoSaid : Prop := fnExactGoodCnfUptoRow.holds Try.pinned (OpenSpec.upto fnExactGoodCnfSpec)

/-- 'laws.FnExactMeets', WHERE WHAT IT READS IS OF BULK AT MOST 1048576: true; the input reads as it did. -/
def fnExactMeetsUptoRow : OpenClaim := { program := "ytdmngodinbelfaa", sum := "3abf258f0bd87057a7b0fb5acf6928d2b4c73eed241dcfca2a100fdce2b53e74", func := "loop.example/g00649/laws.FnExactMeets", spec := "fnExactMeets", unfollowed := true, recurses := true, apart := false, narrowed := true }
def FnExactMeetsUptoSaid : Prop := fnExactMeetsUptoRow.holds Try.pinned (OpenSpec.upto fnExactMeetsSpec)

/-- 'laws.FnExactCountOf', WHERE WHAT IT READS IS OF BULK AT MOST 1048576: true; the input reads as it did. -/
def fnExactCountOfUptoRow : OpenClaim := { program := "ytdmngodinbelfaa", sum := "3abf258f0bd87057a7b0fb5acf6928d2b4c73eed241dcfca2a100fdce2b53e74", func := "loop.example/g00649/laws.FnExactCountOf", spec := "fnExactCountOf", unfollowed := true, recurses := true, apart := false, narrowed := true }
def FnExactCountOfUptoSaid : Prop := fnExactCountOfUptoRow.holds Try.pinned (OpenSpec.upto fnExactCountOfSpec)

/-- 'laws.FnExactForced', WHERE WHAT IT READS IS OF BULK AT MOST 1048576: true; the input reads as it did. -/
def fnExactForcedUptoRow : OpenClaim := { program := "ytdmngodinbelfaa", sum := "3abf258f0bd87057a7b0fb5acf6928d2b4c73eed241dcfca2a100fdce2b53e74", func := "loop.example/g00649/laws.FnExactForced", spec := "fnExactForced", unfollowed := true, recurses := true, apart := false, narrowed := true }
def FnExactForcedUptoSaid : Prop := fnExactForcedUptoRow.holds Try.pinned (OpenSpec.upto fnExactForcedSpec)

/-- 'laws.FnExactSolve', WHERE WHAT IT READS IS OF BULK AT MOST 1048576: true; the input reads as it did. -/
def fnExactSolveUptoRow : OpenClaim := { program := "ytdmngodinbelfaa", sum := "3abf258f0bd87057a7b0fb5acf6928d2b4c73eed241dcfca2a100fdce2b53e74", func := "loop.example/g00649/laws.FnExactSolve", spec := "fnExactSolve", unfollowed := true, recurses := true, apart := false, narrowed := true }
def FnExactSolveUptoSaid : Prop := fnExactSolveUptoRow.holds Try.pinned (OpenSpec.upto fnExactSolveSpec)

/-- 'laws.FnExactResolveOn', WHERE WHAT IT READS IS OF BULK AT MOST 1048576: true; the input reads as it did. -/
def fnExactResolveOnUptoRow : OpenClaim := { program := "ytdmngodinbelfaa", sum := "3abf258f0bd87057a7b0fb5acf6928d2b4c73eed241dcfca2a100fdce2b53e74", func := "loop.example/g00649/laws.FnExactResolveOn", spec := "fnExactResolveOn", unfollowed := true, recurses := true, apart := false, narrowed := true }
def FnExactResolveOnUptoSaid : Prop := fnExactResolveOnUptoRow.holds Try.pinned (OpenSpec.upto fnExactResolveOnSpec)

end Rows
end Go.Proofs.Ytdmngodinbelfaa
