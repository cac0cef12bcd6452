/-
  NARROWER THAN 'FOR EVERY INPUT', by the rows' own cells (each row's printed sentence says how): DomNumbers: loops · DomSounds: loops.
  DERIVED. THE GIVEN ROWS OF THIS SEAT. 9 by the template 'for every input the law returns true; each argument reads behind the call as it read before'; 0 by the template 'total and deterministic' (their statements: YtjiehalanklapaaTotals.lean).
  GIVEN WITH THE SEED: the statements are not yours to turn. If you find one false, say at which input.
  Laid BY PROGRAM, IN A SANDBOX (cutbox-rows.mjs): the forced cells as the released guide's own fill.sh prints them over the translation ce6c7a08bb3c993c… (all of the seat's roots in one cut). By AI agents, Wed Nov 11 2026. No macro, syntax, notation, axiom, sorry.
-/
import Derived.Test.YtjiehalanklapaaChecked
import GoSem.Claim
import GoSem.ClaimJoined
import GoSem.ClaimMapViews
import Derived.JoinedTies
import Derived.KernelRfl
namespace Go.Proofs.Ytjiehalanklapaa
/- THE CELL 'sum', in the pinned program and in every row, IS THE sha256 OF THE DUMP (.gsa) THAT YtjiehalanklapaaProg.lean LOADS. Nothing in Lean hashes anything: it is a label: what it is worth is what the hold of that sum in a sandbox is worth. -/
noncomputable def Try.pinned : Pinned := { name := "ytjiehalanklapaa", sum := "ce6c7a08bb3c993c65f7616ee7ebddcc7d8df623ba67bd948fc3cc15130cd8f7", checked := Try.checked }
namespace Rows
def none {H : Type} : Left H := { results := [], args := [] }

/-- 'anagnostlaw6.DomWrites': WHATEVER THE INPUT: true; the input reads as it did. -/
def domWritesSpec : ChangeSpec := { name := "domWrites", fn := fun _ => fun
  | [d1, d2, d3] => { results := [.lit (.bool true)], args := [d1, d2, d3] }
  | _ => none }
def domWritesRow : OpenClaim := { program := "ytjiehalanklapaa", sum := "ce6c7a08bb3c993c65f7616ee7ebddcc7d8df623ba67bd948fc3cc15130cd8f7", func := "anagnost/anagnostlaw6.DomWrites", spec := "domWrites", recurses := true, apart := false }
def DomWritesSaid : Prop := domWritesRow.holds Try.pinned (OpenSpec.ofChange domWritesSpec)

/-- ITS FALSE NEIGHBOUR: 'it returns false'. Refute it at one input. -/
def domWritesWrong : ChangeSpec := { name := "domWrites", fn := fun _ => fun
  | [d1, d2, d3] => { results := [.lit (.bool false)], args := [d1, d2, d3] }
  | _ => none }
def DomWritesWrongFalsely : Prop := domWritesRow.holds Try.pinned (OpenSpec.ofChange domWritesWrong)

/-- 'anagnostlaw6.DomMoves': WHATEVER THE INPUT: true; the input reads as it did. -/
def domMovesSpec : ChangeSpec := { name := "domMoves", fn := fun _ => fun
  | [d1, d2] => { results := [.lit (.bool true)], args := [d1, d2] }
  | _ => none }
def domMovesRow : OpenClaim := { program := "ytjiehalanklapaa", sum := "ce6c7a08bb3c993c65f7616ee7ebddcc7d8df623ba67bd948fc3cc15130cd8f7", func := "anagnost/anagnostlaw6.DomMoves", spec := "domMoves", recurses := true, apart := false }
def DomMovesSaid : Prop := domMovesRow.holds Try.pinned (OpenSpec.ofChange domMovesSpec)

/-- ITS FALSE NEIGHBOUR: 'it returns false'. Refute it at one input. -/
def domMovesWrong : ChangeSpec := { name := "domMoves", fn := fun _ => fun
  | [d1, d2] => { results := [.lit (.bool false)], args := [d1, d2] }
  | _ => none }
def DomMovesWrongFalsely : Prop := domMovesRow.holds Try.pinned (OpenSpec.ofChange domMovesWrong)

/-- 'anagnostlaw6.DomRings': WHATEVER THE INPUT: true; the input reads as it did. -/
def domRingsSpec : ChangeSpec := { name := "domRings", fn := fun _ => fun
  | [d1, d2] => { results := [.lit (.bool true)], args := [d1, d2] }
  | _ => none }
def domRingsRow : OpenClaim := { program := "ytjiehalanklapaa", sum := "ce6c7a08bb3c993c65f7616ee7ebddcc7d8df623ba67bd948fc3cc15130cd8f7", func := "anagnost/anagnostlaw6.DomRings", spec := "domRings", recurses := true, apart := false }
def DomRingsSaid : Prop := domRingsRow.holds Try.pinned (OpenSpec.ofChange domRingsSpec)

/-- ITS FALSE NEIGHBOUR: 'it returns false'. Refute it at one input. -/
def domRingsWrong : ChangeSpec := { name := "domRings", fn := fun _ => fun
  | [d1, d2] => { results := [.lit (.bool false)], args := [d1, d2] }
  | _ => none }
def DomRingsWrongFalsely : Prop := domRingsRow.holds Try.pinned (OpenSpec.ofChange domRingsWrong)

/-- 'anagnostlaw6.DomOwn': WHATEVER THE INPUT: true; the input reads as it did. -/
def domOwnSpec : ChangeSpec := { name := "domOwn", fn := fun _ => fun
  | [d] => { results := [.lit (.bool true)], args := [d] }
  | _ => none }
def domOwnRow : OpenClaim := { program := "ytjiehalanklapaa", sum := "ce6c7a08bb3c993c65f7616ee7ebddcc7d8df623ba67bd948fc3cc15130cd8f7", func := "anagnost/anagnostlaw6.DomOwn", spec := "domOwn", unfollowed := true, recurses := true, apart := false }
def DomOwnSaid : Prop := domOwnRow.holds Try.pinned (OpenSpec.ofChange domOwnSpec)

/-- ITS FALSE NEIGHBOUR: 'it returns false'. Refute it at one input. -/
def domOwnWrong : ChangeSpec := { name := "domOwn", fn := fun _ => fun
  | [d] => { results := [.lit (.bool false)], args := [d] }
  | _ => none }
def DomOwnWrongFalsely : Prop := domOwnRow.holds Try.pinned (OpenSpec.ofChange domOwnWrong)

/-- 'anagnostlaw6.DomKnown': WHATEVER THE INPUT: true; the input reads as it did. -/
def domKnownSpec : ChangeSpec := { name := "domKnown", fn := fun _ => fun
  | [d] => { results := [.lit (.bool true)], args := [d] }
  | _ => none }
def domKnownRow : OpenClaim := { program := "ytjiehalanklapaa", sum := "ce6c7a08bb3c993c65f7616ee7ebddcc7d8df623ba67bd948fc3cc15130cd8f7", func := "anagnost/anagnostlaw6.DomKnown", spec := "domKnown", recurses := true, apart := false }
def DomKnownSaid : Prop := domKnownRow.holds Try.pinned (OpenSpec.ofChange domKnownSpec)

/-- ITS FALSE NEIGHBOUR: 'it returns false'. Refute it at one input. -/
def domKnownWrong : ChangeSpec := { name := "domKnown", fn := fun _ => fun
  | [d] => { results := [.lit (.bool false)], args := [d] }
  | _ => none }
def DomKnownWrongFalsely : Prop := domKnownRow.holds Try.pinned (OpenSpec.ofChange domKnownWrong)

/-- 'anagnostlaw6.DomNumbers': WHATEVER THE INPUT: true; the input reads as it did. -/
def domNumbersSpec : ChangeSpec := { name := "domNumbers", fn := fun _ => fun
  | [d] => { results := [.lit (.bool true)], args := [d] }
  | _ => none }
def domNumbersRow : OpenClaim := { program := "ytjiehalanklapaa", sum := "ce6c7a08bb3c993c65f7616ee7ebddcc7d8df623ba67bd948fc3cc15130cd8f7", func := "anagnost/anagnostlaw6.DomNumbers", spec := "domNumbers", unfollowed := true, recurses := true, loops := true, apart := false }
def DomNumbersSaid : Prop := domNumbersRow.holds Try.pinned (OpenSpec.ofChange domNumbersSpec)

/-- ITS FALSE NEIGHBOUR: 'it returns false'. Refute it at one input. -/
def domNumbersWrong : ChangeSpec := { name := "domNumbers", fn := fun _ => fun
  | [d] => { results := [.lit (.bool false)], args := [d] }
  | _ => none }
def DomNumbersWrongFalsely : Prop := domNumbersRow.holds Try.pinned (OpenSpec.ofChange domNumbersWrong)

/-- 'anagnostlaw6.DomPlays': WHATEVER THE INPUT: true; the input reads as it did. -/
def domPlaysSpec : ChangeSpec := { name := "domPlays", fn := fun _ => fun
  | [d1, d2] => { results := [.lit (.bool true)], args := [d1, d2] }
  | _ => none }
def domPlaysRow : OpenClaim := { program := "ytjiehalanklapaa", sum := "ce6c7a08bb3c993c65f7616ee7ebddcc7d8df623ba67bd948fc3cc15130cd8f7", func := "anagnost/anagnostlaw6.DomPlays", spec := "domPlays", recurses := true, apart := false }
def DomPlaysSaid : Prop := domPlaysRow.holds Try.pinned (OpenSpec.ofChange domPlaysSpec)

/-- ITS FALSE NEIGHBOUR: 'it returns false'. Refute it at one input. -/
def domPlaysWrong : ChangeSpec := { name := "domPlays", fn := fun _ => fun
  | [d1, d2] => { results := [.lit (.bool false)], args := [d1, d2] }
  | _ => none }
def DomPlaysWrongFalsely : Prop := domPlaysRow.holds Try.pinned (OpenSpec.ofChange domPlaysWrong)

/-- 'anagnostlaw6.DomMade': WHATEVER THE INPUT: true; the input reads as it did. -/
def domMadeSpec : ChangeSpec := { name := "domMade", fn := fun _ => fun
  | [d] => { results := [.lit (.bool true)], args := [d] }
  | _ => none }
def domMadeRow : OpenClaim := { program := "ytjiehalanklapaa", sum := "ce6c7a08bb3c993c65f7616ee7ebddcc7d8df623ba67bd948fc3cc15130cd8f7", func := "anagnost/anagnostlaw6.DomMade", spec := "domMade", unfollowed := true, recurses := true, apart := false }
def DomMadeSaid : Prop := domMadeRow.holds Try.pinned (OpenSpec.ofChange domMadeSpec)

/-- ITS FALSE NEIGHBOUR: 'it returns false'. Refute it at one input. -/
def domMadeWrong : ChangeSpec := { name := "domMade", fn := fun _ => fun
  | [d] => { results := [.lit (.bool false)], args := [d] }
  | _ => none }
def DomMadeWrongFalsely : Prop := domMadeRow.holds Try.pinned (OpenSpec.ofChange domMadeWrong)

/-- 'anagnostlaw6.DomSounds': WHATEVER THE INPUT: true; the input reads as it did. -/
def domSoundsSpec : ChangeSpec := { name := "domSounds", fn := fun _ => fun
  | [d1, d2] => { results := [.lit (.bool true)], args := [d1, d2] }
  | _ => none }
def domSoundsRow : OpenClaim := { program := "ytjiehalanklapaa", sum := "ce6c7a08bb3c993c65f7616ee7ebddcc7d8df623ba67bd948fc3cc15130cd8f7", func := "anagnost/anagnostlaw6.DomSounds", spec := "domSounds", recurses := true, loops := true, apart := false }
def DomSoundsSaid : Prop := domSoundsRow.holds Try.pinned (OpenSpec.ofChange domSoundsSpec)

/-- ITS FALSE NEIGHBOUR: 'it returns false'. Refute it at one input. -/
def domSoundsWrong : ChangeSpec := { name := "domSounds", fn := fun _ => fun
  | [d1, d2] => { results := [.lit (.bool false)], args := [d1, d2] }
  | _ => none }
def DomSoundsWrongFalsely : Prop := domSoundsRow.holds Try.pinned (OpenSpec.ofChange domSoundsWrong)

/- THE SECOND FORM. 'bulk': how many values and letters a reading holds, each counted each time it is reached (what is shared counts as often as it is met; a slice's spare places count too). A statement '..UptoSaid' is the law's where the arguments, and the package variables that the reading takes, are together of bulk at most 1048576: NARROWER than '..Said'. Prove '..Said' where nothing that the law and all that it calls make is longer than what came in: it says more and counts as full. Else prove '..UptoSaid'. A law counts once. -/
mutual
def uptoBulk {H : Type} : DataW H → Nat
  | .lit (.string bytes) => bytes.length + 1
  | .lit _ => 1
  | .nil => 1
  | .ptr d => uptoBulk d + 1
  | .slice elems spare => uptoBulkAll elems + uptoBulkAll spare + 1
  | .agg parts => uptoBulkAll parts + 1
  | .iface _ d => uptoBulk d + 1
  | .map entries => uptoBulkEntries entries + 1
  | .held _ => 1
def uptoBulkAll {H : Type} : List (DataW H) → Nat
  | [] => 0
  | d :: r => uptoBulk d + uptoBulkAll r
def uptoBulkEntries {H : Type} : List (Lit × DataW H) → Nat
  | [] => 0
  | x :: r => uptoBulkEntry x + uptoBulkEntries r
def uptoBulkEntry {H : Type} : Lit × DataW H → Nat
  | (.string bytes, d) => bytes.length + uptoBulk d + 1
  | (_, d) => uptoBulk d + 1
 end
def uptoSmall : (H : Type) → List (DataW H) → Bool := fun _ ds => decide (uptoBulkAll ds ≤ 1048576)
def OpenSpec.upto (s : _root_.Go.ChangeSpec) : _root_.Go.OpenSpec := { _root_.Go.OpenSpec.ofChange s with cond := some uptoSmall }

/-- 'anagnostlaw6.DomWrites', WHERE WHAT IT READS IS OF BULK AT MOST 1048576: true; the input reads as it did. -/
def domWritesUptoRow : OpenClaim := { program := "ytjiehalanklapaa", sum := "ce6c7a08bb3c993c65f7616ee7ebddcc7d8df623ba67bd948fc3cc15130cd8f7", func := "anagnost/anagnostlaw6.DomWrites", spec := "domWrites", recurses := true, apart := false, narrowed := true }
def DomWritesUptoSaid : Prop := domWritesUptoRow.holds Try.pinned (OpenSpec.upto domWritesSpec)

/-- 'anagnostlaw6.DomMoves', WHERE WHAT IT READS IS OF BULK AT MOST 1048576: true; the input reads as it did. -/
def domMovesUptoRow : OpenClaim := { program := "ytjiehalanklapaa", sum := "ce6c7a08bb3c993c65f7616ee7ebddcc7d8df623ba67bd948fc3cc15130cd8f7", func := "anagnost/anagnostlaw6.DomMoves", spec := "domMoves", recurses := true, apart := false, narrowed := true }
def DomMovesUptoSaid : Prop := domMovesUptoRow.holds Try.pinned (OpenSpec.upto domMovesSpec)

/-- 'anagnostlaw6.DomRings', WHERE WHAT IT READS IS OF BULK AT MOST 1048576: true; the input reads as it did. -/
def domRingsUptoRow : OpenClaim := { program := "ytjiehalanklapaa", sum := "ce6c7a08bb3c993c65f7616ee7ebddcc7d8df623ba67bd948fc3cc15130cd8f7", func := "anagnost/anagnostlaw6.DomRings", spec := "domRings", recurses := true, apart := false, narrowed := true }
def DomRingsUptoSaid : Prop := domRingsUptoRow.holds Try.pinned (OpenSpec.upto domRingsSpec)

/-- 'anagnostlaw6.DomOwn', WHERE WHAT IT READS IS OF BULK AT MOST 1048576: true; the input reads as it did. -/
def domOwnUptoRow : OpenClaim := { program := "ytjiehalanklapaa", sum := "ce6c7a08bb3c993c65f7616ee7ebddcc7d8df623ba67bd948fc3cc15130cd8f7", func := "anagnost/anagnostlaw6.DomOwn", spec := "domOwn", unfollowed := true, recurses := true, apart := false, narrowed := true }
def DomOwnUptoSaid : Prop := domOwnUptoRow.holds Try.pinned (OpenSpec.upto domOwnSpec)

/-- 'anagnostlaw6.DomKnown', WHERE WHAT IT READS IS OF BULK AT MOST 1048576: true; the input reads as it did. -/
def domKnownUptoRow : OpenClaim := { program := "ytjiehalanklapaa", sum := "ce6c7a08bb3c993c65f7616ee7ebddcc7d8df623ba67bd948fc3cc15130cd8f7", func := "anagnost/anagnostlaw6.DomKnown", spec := "domKnown", recurses := true, apart := false, narrowed := true }
def DomKnownUptoSaid : Prop := domKnownUptoRow.holds Try.pinned (OpenSpec.upto domKnownSpec)

/-- 'anagnostlaw6.DomNumbers', WHERE WHAT IT READS IS OF BULK AT MOST 1048576: true; the input reads as it did. -/
def domNumbersUptoRow : OpenClaim := { program := "ytjiehalanklapaa", sum := "ce6c7a08bb3c993c65f7616ee7ebddcc7d8df623ba67bd948fc3cc15130cd8f7", func := "anagnost/anagnostlaw6.DomNumbers", spec := "domNumbers", unfollowed := true, recurses := true, loops := true, apart := false, narrowed := true }
def DomNumbersUptoSaid : Prop := domNumbersUptoRow.holds Try.pinned (OpenSpec.upto domNumbersSpec)

/-- 'anagnostlaw6.DomPlays', WHERE WHAT IT READS IS OF BULK AT MOST 1048576: true; the input reads as it did. -/
def domPlaysUptoRow : OpenClaim := { program := "ytjiehalanklapaa", sum := "ce6c7a08bb3c993c65f7616ee7ebddcc7d8df623ba67bd948fc3cc15130cd8f7", func := "anagnost/anagnostlaw6.DomPlays", spec := "domPlays", recurses := true, apart := false, narrowed := true }
def DomPlaysUptoSaid : Prop := domPlaysUptoRow.holds Try.pinned (OpenSpec.upto domPlaysSpec)

/-- 'anagnostlaw6.DomMade', WHERE WHAT IT READS IS OF BULK AT MOST 1048576: true; the input reads as it did. -/
def domMadeUptoRow : OpenClaim := { program := "ytjiehalanklapaa", sum := "ce6c7a08bb3c993c65f7616ee7ebddcc7d8df623ba67bd948fc3cc15130cd8f7", func := "anagnost/anagnostlaw6.DomMade", spec := "domMade", unfollowed := true, recurses := true, apart := false, narrowed := true }
def DomMadeUptoSaid : Prop := domMadeUptoRow.holds Try.pinned (OpenSpec.upto domMadeSpec)

/-- 'anagnostlaw6.DomSounds', WHERE WHAT IT READS IS OF BULK AT MOST 1048576: true; the input reads as it did. -/
def domSoundsUptoRow : OpenClaim := { program := "ytjiehalanklapaa", sum := "ce6c7a08bb3c993c65f7616ee7ebddcc7d8df623ba67bd948fc3cc15130cd8f7", func := "anagnost/anagnostlaw6.DomSounds", spec := "domSounds", recurses := true, loops := true, apart := false, narrowed := true }
def DomSoundsUptoSaid : Prop := domSoundsUptoRow.holds Try.pinned (OpenSpec.upto domSoundsSpec)

end Rows
end Go.Proofs.Ytjiehalanklapaa
