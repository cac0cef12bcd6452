/-
  NARROWER THAN 'FOR EVERY INPUT', by the rows' own cells (each row's printed sentence says how): PrintTells: loops.
  DERIVED. THE GIVEN ROWS OF THIS SEAT. 4 by the template 'for every input the law returns true; each argument reads behind the call as it read before'; 0 by the template 'total and deterministic' (their statements: YtbcmiijollpgeaaTotals.lean).
  GIVEN WITH THE SEED: the statements are not yours to turn. If you find one false, say at which input.
  Laid BY PROGRAM, IN A SANDBOX (cutbox-rows.mjs): the forced cells as the released guide's own fill.sh prints them over the translation 252b28bd082447f9… (all of the seat's roots in one cut). By AI agents, Wed Nov 11 2026. No macro, syntax, notation, axiom, sorry.
-/
import Derived.Test.YtbcmiijollpgeaaChecked
import GoSem.Claim
import GoSem.ClaimJoined
import GoSem.ClaimMapViews
import Derived.JoinedTies
import Derived.KernelRfl
namespace Go.Proofs.Ytbcmiijollpgeaa
/- THE CELL 'sum', in the pinned program and in every row, IS THE sha256 OF THE DUMP (.gsa) THAT YtbcmiijollpgeaaProg.lean LOADS. Nothing in Lean hashes anything: it is a label: what it is worth is what the hold of that sum in a sandbox is worth. -/
noncomputable def Try.pinned : Pinned := { name := "ytbcmiijollpgeaa", sum := "252b28bd082447f9f0928b56cc64159c54fec9602ee67e744f3bc77da8500870", checked := Try.checked }
namespace Rows
def none {H : Type} : Left H := { results := [], args := [] }

/-- 'anagnostlaw19.PrintTells': WHATEVER THE INPUT: true; the input reads as it did. -/
def printTellsSpec : ChangeSpec := { name := "printTells", fn := fun _ => fun
  | [d1, d2, d3, d4, d5] => { results := [.lit (.bool true)], args := [d1, d2, d3, d4, d5] }
  | _ => none }
def printTellsRow : OpenClaim := { program := "ytbcmiijollpgeaa", sum := "252b28bd082447f9f0928b56cc64159c54fec9602ee67e744f3bc77da8500870", func := "anagnost/anagnostlaw19.PrintTells", spec := "printTells", inPlace := ["internal/abi.NoEscape"], unfollowed := true, recurses := true, loops := true, apart := false }
def PrintTellsSaid : Prop := printTellsRow.holds Try.pinned (OpenSpec.ofChange printTellsSpec)

/-- ITS FALSE NEIGHBOUR: 'it returns false'. Refute it at one input. -/
def printTellsWrong : ChangeSpec := { name := "printTells", fn := fun _ => fun
  | [d1, d2, d3, d4, d5] => { results := [.lit (.bool false)], args := [d1, d2, d3, d4, d5] }
  | _ => none }
def PrintTellsWrongFalsely : Prop := printTellsRow.holds Try.pinned (OpenSpec.ofChange printTellsWrong)

/-- 'anagnostlaw19.PrintParts': WHATEVER THE INPUT: true; the input reads as it did. -/
def printPartsSpec : ChangeSpec := { name := "printParts", fn := fun _ => fun
  | [d1, d2] => { results := [.lit (.bool true)], args := [d1, d2] }
  | _ => none }
def printPartsRow : OpenClaim := { program := "ytbcmiijollpgeaa", sum := "252b28bd082447f9f0928b56cc64159c54fec9602ee67e744f3bc77da8500870", func := "anagnost/anagnostlaw19.PrintParts", spec := "printParts", inPlace := ["internal/abi.NoEscape"], unfollowed := true, recurses := true, apart := false }
def PrintPartsSaid : Prop := printPartsRow.holds Try.pinned (OpenSpec.ofChange printPartsSpec)

/-- ITS FALSE NEIGHBOUR: 'it returns false'. Refute it at one input. -/
def printPartsWrong : ChangeSpec := { name := "printParts", fn := fun _ => fun
  | [d1, d2] => { results := [.lit (.bool false)], args := [d1, d2] }
  | _ => none }
def PrintPartsWrongFalsely : Prop := printPartsRow.holds Try.pinned (OpenSpec.ofChange printPartsWrong)

/-- 'anagnostlaw19.PrintSafe': WHATEVER THE INPUT: true; the input reads as it did. -/
def printSafeSpec : ChangeSpec := { name := "printSafe", fn := fun _ => fun
  | [d] => { results := [.lit (.bool true)], args := [d] }
  | _ => none }
def printSafeRow : OpenClaim := { program := "ytbcmiijollpgeaa", sum := "252b28bd082447f9f0928b56cc64159c54fec9602ee67e744f3bc77da8500870", func := "anagnost/anagnostlaw19.PrintSafe", spec := "printSafe", inPlace := ["internal/abi.NoEscape"], unfollowed := true, recurses := true, apart := false }
def PrintSafeSaid : Prop := printSafeRow.holds Try.pinned (OpenSpec.ofChange printSafeSpec)

/-- ITS FALSE NEIGHBOUR: 'it returns false'. Refute it at one input. -/
def printSafeWrong : ChangeSpec := { name := "printSafe", fn := fun _ => fun
  | [d] => { results := [.lit (.bool false)], args := [d] }
  | _ => none }
def PrintSafeWrongFalsely : Prop := printSafeRow.holds Try.pinned (OpenSpec.ofChange printSafeWrong)

/-- 'anagnostlaw19.PrintKnown': WHATEVER THE INPUT: true; the input reads as it did. -/
def printKnownSpec : ChangeSpec := { name := "printKnown", fn := fun _ => fun
  | [d] => { results := [.lit (.bool true)], args := [d] }
  | _ => none }
def printKnownRow : OpenClaim := { program := "ytbcmiijollpgeaa", sum := "252b28bd082447f9f0928b56cc64159c54fec9602ee67e744f3bc77da8500870", func := "anagnost/anagnostlaw19.PrintKnown", spec := "printKnown", inPlace := ["internal/abi.NoEscape"], unfollowed := true, recurses := true, apart := false }
def PrintKnownSaid : Prop := printKnownRow.holds Try.pinned (OpenSpec.ofChange printKnownSpec)

/-- ITS FALSE NEIGHBOUR: 'it returns false'. Refute it at one input. -/
def printKnownWrong : ChangeSpec := { name := "printKnown", fn := fun _ => fun
  | [d] => { results := [.lit (.bool false)], args := [d] }
  | _ => none }
def PrintKnownWrongFalsely : Prop := printKnownRow.holds Try.pinned (OpenSpec.ofChange printKnownWrong)

/- THE SECOND FORM. 'bulk': how many values and letters a reading holds, each counted each time it is reached (what is shared counts as often as it is met; a slice's spare places count too). A statement '..UptoSaid' is the law's where the arguments, and the package variables that the reading takes, are together of bulk at most 1048576: NARROWER than '..Said'. Prove '..Said' where nothing that the law and all that it calls make is longer than what came in: it says more and counts as full. Else prove '..UptoSaid'. A law counts once. -/
mutual
def uptoBulk {H : Type} : DataW H → Nat
  | .lit (.string bytes) => bytes.length + 1
  | .lit _ => 1
  | .nil => 1
  | .ptr d => uptoBulk d + 1
  | .slice elems spare => uptoBulkAll elems + uptoBulkAll spare + 1
  | .agg parts => uptoBulkAll parts + 1
  | .iface _ d => uptoBulk d + 1
  | .map entries => uptoBulkEntries entries + 1
  | .held _ => 1
def uptoBulkAll {H : Type} : List (DataW H) → Nat
  | [] => 0
  | d :: r => uptoBulk d + uptoBulkAll r
def uptoBulkEntries {H : Type} : List (Lit × DataW H) → Nat
  | [] => 0
  | x :: r => uptoBulkEntry x + uptoBulkEntries r
def uptoBulkEntry {H : Type} : Lit × DataW H → Nat
  | (.string bytes, d) => bytes.length + uptoBulk d + 1
  | (_, d) => uptoBulk d + 1
 end
def uptoSmall : (H : Type) → List (DataW H) → Bool := fun _ ds => decide (uptoBulkAll ds ≤ 1048576)
def OpenSpec.upto (s : _root_.Go.ChangeSpec) : _root_.Go.OpenSpec := { _root_.Go.OpenSpec.ofChange s with cond := some uptoSmall }

/-- 'anagnostlaw19.PrintTells', WHERE WHAT IT READS IS OF BULK AT MOST 1048576: true; the input reads as it did. -/
def printTellsUptoRow : OpenClaim := { program := "ytbcmiijollpgeaa", sum := "252b28bd082447f9f0928b56cc64159c54fec9602ee67e744f3bc77da8500870", func := "anagnost/anagnostlaw19.PrintTells", spec := "printTells", inPlace := ["internal/abi.NoEscape"], unfollowed := true, recurses := true, loops := true, apart := false, narrowed := true }
def PrintTellsUptoSaid : Prop := printTellsUptoRow.holds Try.pinned (OpenSpec.upto printTellsSpec)

/-- 'anagnostlaw19.PrintParts', WHERE WHAT IT READS IS OF BULK AT MOST 1048576: true; the input reads as it did. -/
def printPartsUptoRow : OpenClaim := { program := "ytbcmiijollpgeaa", sum := "252b28bd082447f9f0928b56cc64159c54fec9602ee67e744f3bc77da8500870", func := "anagnost/anagnostlaw19.PrintParts", spec := "printParts", inPlace := ["internal/abi.NoEscape"], unfollowed := true, recurses := true, apart := false, narrowed := true }
def PrintPartsUptoSaid : Prop := printPartsUptoRow.holds Try.pinned (OpenSpec.upto printPartsSpec)

/-- 'anagnostlaw19.PrintSafe', WHERE WHAT IT READS IS OF BULK AT MOST 1048576: true; the input reads as it did. -/
def printSafeUptoRow : OpenClaim := { program := "ytbcmiijollpgeaa", sum := "252b28bd082447f9f0928b56cc64159c54fec9602ee67e744f3bc77da8500870", func := "anagnost/anagnostlaw19.PrintSafe", spec := "printSafe", inPlace := ["internal/abi.NoEscape"], unfollowed := true, recurses := true, apart := false, narrowed := true }
def PrintSafeUptoSaid : Prop := printSafeUptoRow.holds Try.pinned (OpenSpec.upto printSafeSpec)

/-- 'anagnostlaw19.PrintKnown', WHERE WHAT IT READS IS OF BULK AT MOST 1048576: true; the input reads as it did. -/
def printKnownUptoRow : OpenClaim := { program := "ytbcmiijollpgeaa", sum := "252b28bd082447f9f0928b56cc64159c54fec9602ee67e744f3bc77da8500870", func := "anagnost/anagnostlaw19.PrintKnown", spec := "printKnown", inPlace := ["internal/abi.NoEscape"], unfollowed := true, recurses := true, apart := false, narrowed := true }
def PrintKnownUptoSaid : Prop := printKnownUptoRow.holds Try.pinned (OpenSpec.upto printKnownSpec)

end Rows
end Go.Proofs.Ytbcmiijollpgeaa
