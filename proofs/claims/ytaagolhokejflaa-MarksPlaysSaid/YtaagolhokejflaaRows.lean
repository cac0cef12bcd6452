/-
  No cell of these rows narrows 'for every input' (looked for: loops, veiled, ifaces, maps, wideKeys, modest, calm, conditions, laid).
  DERIVED. THE GIVEN ROWS OF THIS SEAT. 7 by the template 'for every input the law returns true; each argument reads behind the call as it read before'; 0 by the template 'total and deterministic' (their statements: YtaagolhokejflaaTotals.lean).
  GIVEN WITH THE SEED: the statements are not yours to turn. If you find one false, say at which input.
  Laid BY PROGRAM, IN A SANDBOX (cutbox-rows.mjs): the forced cells as the released guide's own fill.sh prints them over the translation 2a3c3d7cd2fff620… (all of the seat's roots in one cut). By AI agents, Wed Nov 11 2026. No macro, syntax, notation, axiom, sorry.
-/
import Derived.Test.YtaagolhokejflaaChecked
import GoSem.Claim
import GoSem.ClaimJoined
import GoSem.ClaimMapViews
import Derived.JoinedTies
import Derived.KernelRfl
namespace Go.Proofs.Ytaagolhokejflaa
/- THE CELL 'sum', in the pinned program and in every row, IS THE sha256 OF THE DUMP (.gsa) THAT YtaagolhokejflaaProg.lean LOADS. Nothing in Lean hashes anything: it is a label: what it is worth is what the hold of that sum in a sandbox is worth. -/
noncomputable def Try.pinned : Pinned := { name := "ytaagolhokejflaa", sum := "2a3c3d7cd2fff620bb40135e09a6cbcc9e883b2a878f3e039eb851d5a22b7582", checked := Try.checked }
namespace Rows
def none {H : Type} : Left H := { results := [], args := [] }

/-- 'anagnostlaw7.MarksKnown': WHATEVER THE INPUT: true; the input reads as it did. -/
def marksKnownSpec : ChangeSpec := { name := "marksKnown", fn := fun _ => fun
  | [d] => { results := [.lit (.bool true)], args := [d] }
  | _ => none }
def marksKnownRow : OpenClaim := { program := "ytaagolhokejflaa", sum := "2a3c3d7cd2fff620bb40135e09a6cbcc9e883b2a878f3e039eb851d5a22b7582", func := "anagnost/anagnostlaw7.MarksKnown", spec := "marksKnown", apart := false }
def MarksKnownSaid : Prop := marksKnownRow.holds Try.pinned (OpenSpec.ofChange marksKnownSpec)

/-- ITS FALSE NEIGHBOUR: 'it returns false'. Refute it at one input. -/
def marksKnownWrong : ChangeSpec := { name := "marksKnown", fn := fun _ => fun
  | [d] => { results := [.lit (.bool false)], args := [d] }
  | _ => none }
def MarksKnownWrongFalsely : Prop := marksKnownRow.holds Try.pinned (OpenSpec.ofChange marksKnownWrong)

/-- 'anagnostlaw7.MarksFour': WHATEVER THE INPUT: true; the input reads as it did. -/
def marksFourSpec : ChangeSpec := { name := "marksFour", fn := fun _ => fun
  | [d] => { results := [.lit (.bool true)], args := [d] }
  | _ => none }
def marksFourRow : OpenClaim := { program := "ytaagolhokejflaa", sum := "2a3c3d7cd2fff620bb40135e09a6cbcc9e883b2a878f3e039eb851d5a22b7582", func := "anagnost/anagnostlaw7.MarksFour", spec := "marksFour", apart := false }
def MarksFourSaid : Prop := marksFourRow.holds Try.pinned (OpenSpec.ofChange marksFourSpec)

/-- ITS FALSE NEIGHBOUR: 'it returns false'. Refute it at one input. -/
def marksFourWrong : ChangeSpec := { name := "marksFour", fn := fun _ => fun
  | [d] => { results := [.lit (.bool false)], args := [d] }
  | _ => none }
def MarksFourWrongFalsely : Prop := marksFourRow.holds Try.pinned (OpenSpec.ofChange marksFourWrong)

/-- 'anagnostlaw7.MarksFirst': WHATEVER THE INPUT: true; the input reads as it did. -/
def marksFirstSpec : ChangeSpec := { name := "marksFirst", fn := fun _ => fun
  | [d1, d2, d3] => { results := [.lit (.bool true)], args := [d1, d2, d3] }
  | _ => none }
def marksFirstRow : OpenClaim := { program := "ytaagolhokejflaa", sum := "2a3c3d7cd2fff620bb40135e09a6cbcc9e883b2a878f3e039eb851d5a22b7582", func := "anagnost/anagnostlaw7.MarksFirst", spec := "marksFirst", apart := false }
def MarksFirstSaid : Prop := marksFirstRow.holds Try.pinned (OpenSpec.ofChange marksFirstSpec)

/-- ITS FALSE NEIGHBOUR: 'it returns false'. Refute it at one input. -/
def marksFirstWrong : ChangeSpec := { name := "marksFirst", fn := fun _ => fun
  | [d1, d2, d3] => { results := [.lit (.bool false)], args := [d1, d2, d3] }
  | _ => none }
def MarksFirstWrongFalsely : Prop := marksFirstRow.holds Try.pinned (OpenSpec.ofChange marksFirstWrong)

/-- 'anagnostlaw7.MarksWalls': WHATEVER THE INPUT: true; the input reads as it did. -/
def marksWallsSpec : ChangeSpec := { name := "marksWalls", fn := fun _ => fun
  | [d1, d2] => { results := [.lit (.bool true)], args := [d1, d2] }
  | _ => none }
def marksWallsRow : OpenClaim := { program := "ytaagolhokejflaa", sum := "2a3c3d7cd2fff620bb40135e09a6cbcc9e883b2a878f3e039eb851d5a22b7582", func := "anagnost/anagnostlaw7.MarksWalls", spec := "marksWalls", apart := false }
def MarksWallsSaid : Prop := marksWallsRow.holds Try.pinned (OpenSpec.ofChange marksWallsSpec)

/-- ITS FALSE NEIGHBOUR: 'it returns false'. Refute it at one input. -/
def marksWallsWrong : ChangeSpec := { name := "marksWalls", fn := fun _ => fun
  | [d1, d2] => { results := [.lit (.bool false)], args := [d1, d2] }
  | _ => none }
def MarksWallsWrongFalsely : Prop := marksWallsRow.holds Try.pinned (OpenSpec.ofChange marksWallsWrong)

/-- 'anagnostlaw7.MarksOwn': WHATEVER THE INPUT: true; the input reads as it did. -/
def marksOwnSpec : ChangeSpec := { name := "marksOwn", fn := fun _ => fun
  | [d] => { results := [.lit (.bool true)], args := [d] }
  | _ => none }
def marksOwnRow : OpenClaim := { program := "ytaagolhokejflaa", sum := "2a3c3d7cd2fff620bb40135e09a6cbcc9e883b2a878f3e039eb851d5a22b7582", func := "anagnost/anagnostlaw7.MarksOwn", spec := "marksOwn", apart := false }
def MarksOwnSaid : Prop := marksOwnRow.holds Try.pinned (OpenSpec.ofChange marksOwnSpec)

/-- ITS FALSE NEIGHBOUR: 'it returns false'. Refute it at one input. -/
def marksOwnWrong : ChangeSpec := { name := "marksOwn", fn := fun _ => fun
  | [d] => { results := [.lit (.bool false)], args := [d] }
  | _ => none }
def MarksOwnWrongFalsely : Prop := marksOwnRow.holds Try.pinned (OpenSpec.ofChange marksOwnWrong)

/-- 'anagnostlaw7.MarksPlaces': WHATEVER THE INPUT: true; the input reads as it did. -/
def marksPlacesSpec : ChangeSpec := { name := "marksPlaces", fn := fun _ => fun
  | [d1, d2, d3] => { results := [.lit (.bool true)], args := [d1, d2, d3] }
  | _ => none }
def marksPlacesRow : OpenClaim := { program := "ytaagolhokejflaa", sum := "2a3c3d7cd2fff620bb40135e09a6cbcc9e883b2a878f3e039eb851d5a22b7582", func := "anagnost/anagnostlaw7.MarksPlaces", spec := "marksPlaces", apart := false }
def MarksPlacesSaid : Prop := marksPlacesRow.holds Try.pinned (OpenSpec.ofChange marksPlacesSpec)

/-- ITS FALSE NEIGHBOUR: 'it returns false'. Refute it at one input. -/
def marksPlacesWrong : ChangeSpec := { name := "marksPlaces", fn := fun _ => fun
  | [d1, d2, d3] => { results := [.lit (.bool false)], args := [d1, d2, d3] }
  | _ => none }
def MarksPlacesWrongFalsely : Prop := marksPlacesRow.holds Try.pinned (OpenSpec.ofChange marksPlacesWrong)

/-- 'anagnostlaw7.MarksPlays': WHATEVER THE INPUT: true; the input reads as it did. -/
def marksPlaysSpec : ChangeSpec := { name := "marksPlays", fn := fun _ => fun
  | [d] => { results := [.lit (.bool true)], args := [d] }
  | _ => none }
def marksPlaysRow : OpenClaim := { program := "ytaagolhokejflaa", sum := "2a3c3d7cd2fff620bb40135e09a6cbcc9e883b2a878f3e039eb851d5a22b7582", func := "anagnost/anagnostlaw7.MarksPlays", spec := "marksPlays", apart := false }
def MarksPlaysSaid : Prop := marksPlaysRow.holds Try.pinned (OpenSpec.ofChange marksPlaysSpec)

/-- ITS FALSE NEIGHBOUR: 'it returns false'. Refute it at one input. -/
def marksPlaysWrong : ChangeSpec := { name := "marksPlays", fn := fun _ => fun
  | [d] => { results := [.lit (.bool false)], args := [d] }
  | _ => none }
def MarksPlaysWrongFalsely : Prop := marksPlaysRow.holds Try.pinned (OpenSpec.ofChange marksPlaysWrong)

/- THE SECOND FORM. 'bulk': how many values and letters a reading holds, each counted each time it is reached (what is shared counts as often as it is met; a slice's spare places count too). A statement '..UptoSaid' is the law's where the arguments, and the package variables that the reading takes, are together of bulk at most 1048576: NARROWER than '..Said'. Prove '..Said' where nothing that the law and all that it calls make is longer than what came in: it says more and counts as full. Else prove '..UptoSaid'. A law counts once. -/
mutual
def uptoBulk {H : Type} : DataW H → Nat
  | .lit (.string bytes) => bytes.length + 1
  | .lit _ => 1
  | .nil => 1
  | .ptr d => uptoBulk d + 1
  | .slice elems spare => uptoBulkAll elems + uptoBulkAll spare + 1
  | .agg parts => uptoBulkAll parts + 1
  | .iface _ d => uptoBulk d + 1
  | .map entries => uptoBulkEntries entries + 1
  | .held _ => 1
def uptoBulkAll {H : Type} : List (DataW H) → Nat
  | [] => 0
  | d :: r => uptoBulk d + uptoBulkAll r
def uptoBulkEntries {H : Type} : List (Lit × DataW H) → Nat
  | [] => 0
  | x :: r => uptoBulkEntry x + uptoBulkEntries r
def uptoBulkEntry {H : Type} : Lit × DataW H → Nat
  | (.string bytes, d) => bytes.length + uptoBulk d + 1
  | (_, d) => uptoBulk d + 1
 end
def uptoSmall : (H : Type) → List (DataW H) → Bool := fun _ ds => decide (uptoBulkAll ds ≤ 1048576)
def OpenSpec.upto (s : _root_.Go.ChangeSpec) : _root_.Go.OpenSpec := { _root_.Go.OpenSpec.ofChange s with cond := some uptoSmall }

/-- 'anagnostlaw7.MarksKnown', WHERE WHAT IT READS IS OF BULK AT MOST 1048576: true; the input reads as it did. -/
def marksKnownUptoRow : OpenClaim := { program := "ytaagolhokejflaa", sum := "2a3c3d7cd2fff620bb40135e09a6cbcc9e883b2a878f3e039eb851d5a22b7582", func := "anagnost/anagnostlaw7.MarksKnown", spec := "marksKnown", apart := false, narrowed := true }
def MarksKnownUptoSaid : Prop := marksKnownUptoRow.holds Try.pinned (OpenSpec.upto marksKnownSpec)

/-- 'anagnostlaw7.MarksFour', WHERE WHAT IT READS IS OF BULK AT MOST 1048576: true; the input reads as it did. -/
def marksFourUptoRow : OpenClaim := { program := "ytaagolhokejflaa", sum := "2a3c3d7cd2fff620bb40135e09a6cbcc9e883b2a878f3e039eb851d5a22b7582", func := "anagnost/anagnostlaw7.MarksFour", spec := "marksFour", apart := false, narrowed := true }
def MarksFourUptoSaid : Prop := marksFourUptoRow.holds Try.pinned (OpenSpec.upto marksFourSpec)

/-- 'anagnostlaw7.MarksFirst', WHERE WHAT IT READS IS OF BULK AT MOST 1048576: true; the input reads as it did. -/
def marksFirstUptoRow : OpenClaim := { program := "ytaagolhokejflaa", sum := "2a3c3d7cd2fff620bb40135e09a6cbcc9e883b2a878f3e039eb851d5a22b7582", func := "anagnost/anagnostlaw7.MarksFirst", spec := "marksFirst", apart := false, narrowed := true }
def MarksFirstUptoSaid : Prop := marksFirstUptoRow.holds Try.pinned (OpenSpec.upto marksFirstSpec)

/-- 'anagnostlaw7.MarksWalls', WHERE WHAT IT READS IS OF BULK AT MOST 1048576: true; the input reads as it did. -/
def marksWallsUptoRow : OpenClaim := { program := "ytaagolhokejflaa", sum := "2a3c3d7cd2fff620bb40135e09a6cbcc9e883b2a878f3e039eb851d5a22b7582", func := "anagnost/anagnostlaw7.MarksWalls", spec := "marksWalls", apart := false, narrowed := true }
def MarksWallsUptoSaid : Prop := marksWallsUptoRow.holds Try.pinned (OpenSpec.upto marksWallsSpec)

/-- 'anagnostlaw7.MarksOwn', WHERE WHAT IT READS IS OF BULK AT MOST 1048576: true; the input reads as it did. -/
def marksOwnUptoRow : OpenClaim := { program := "ytaagolhokejflaa", sum := "2a3c3d7cd2fff620bb40135e09a6cbcc9e883b2a878f3e039eb851d5a22b7582", func := "anagnost/anagnostlaw7.MarksOwn", spec := "marksOwn", apart := false, narrowed := true }
def MarksOwnUptoSaid : Prop := marksOwnUptoRow.holds Try.pinned (OpenSpec.upto marksOwnSpec)

/-- 'anagnostlaw7.MarksPlaces', WHERE WHAT IT READS IS OF BULK AT MOST 1048576: true; the input reads as it did. -/
def marksPlacesUptoRow : OpenClaim := { program := "ytaagolhokejflaa", sum := "2a3c3d7cd2fff620bb40135e09a6cbcc9e883b2a878f3e039eb851d5a22b7582", func := "anagnost/anagnostlaw7.MarksPlaces", spec := "marksPlaces", apart := false, narrowed := true }
def MarksPlacesUptoSaid : Prop := marksPlacesUptoRow.holds Try.pinned (OpenSpec.upto marksPlacesSpec)

/-- 'anagnostlaw7.MarksPlays', WHERE WHAT IT READS IS OF BULK AT MOST 1048576: true; the input reads as it did. -/
def marksPlaysUptoRow : OpenClaim := { program := "ytaagolhokejflaa", sum := "2a3c3d7cd2fff620bb40135e09a6cbcc9e883b2a878f3e039eb851d5a22b7582", func := "anagnost/anagnostlaw7.MarksPlays", spec := "marksPlays", apart := false, narrowed := true }
def MarksPlaysUptoSaid : Prop := marksPlaysUptoRow.holds Try.pinned (OpenSpec.upto marksPlaysSpec)

end Rows
end Go.Proofs.Ytaagolhokejflaa
