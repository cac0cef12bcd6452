/-
  No cell of these rows narrows 'for every input' (looked for: loops, veiled, ifaces, maps, wideKeys, modest, calm, conditions, laid).
  DERIVED. THE GIVEN ROWS OF THIS SEAT. 10 by the template 'for every input the law returns true; each argument reads behind the call as it read before'; 0 by the template 'total and deterministic' (their statements: YtmhbdalemgmfcaaTotals.lean).
  GIVEN WITH THE SEED: the statements are not yours to turn. If you find one false, say at which input.
  Laid BY PROGRAM, IN A SANDBOX (cutbox-rows.mjs): the forced cells as the released guide's own fill.sh prints them over the translation 946dfd6eb90066af… (all of the seat's roots in one cut). By AI agents, Wed Nov 11 2026. No macro, syntax, notation, axiom, sorry.
-/
import Derived.Test.YtmhbdalemgmfcaaChecked
import GoSem.Claim
import GoSem.ClaimJoined
import GoSem.ClaimMapViews
import Derived.JoinedTies
import Derived.KernelRfl
namespace Go.Proofs.Ytmhbdalemgmfcaa
/- THE CELL 'sum', in the pinned program and in every row, IS THE sha256 OF THE DUMP (.gsa) THAT YtmhbdalemgmfcaaProg.lean LOADS. Nothing in Lean hashes anything: it is a label: what it is worth is what the hold of that sum in a sandbox is worth. -/
noncomputable def Try.pinned : Pinned := { name := "ytmhbdalemgmfcaa", sum := "946dfd6eb90066afb7cca47afc485d8e15883fdb25310f945214da5f4ad5c946", checked := Try.checked }
namespace Rows
def none {H : Type} : Left H := { results := [], args := [] }

/-- 'anagnostlaw1.TextLines': WHATEVER THE INPUT: true; the input reads as it did. -/
def textLinesSpec : ChangeSpec := { name := "textLines", fn := fun _ => fun
  | [d] => { results := [.lit (.bool true)], args := [d] }
  | _ => none }
def textLinesRow : OpenClaim := { program := "ytmhbdalemgmfcaa", sum := "946dfd6eb90066afb7cca47afc485d8e15883fdb25310f945214da5f4ad5c946", func := "anagnost/anagnostlaw1.TextLines", spec := "textLines", inPlace := ["internal/abi.NoEscape", "internal/bytealg.IndexByteString", "internal/bytealg.MakeNoZero"], apart := false }
def TextLinesSaid : Prop := textLinesRow.holds Try.pinned (OpenSpec.ofChange textLinesSpec)

/-- ITS FALSE NEIGHBOUR: 'it returns false'. Refute it at one input. -/
def textLinesWrong : ChangeSpec := { name := "textLines", fn := fun _ => fun
  | [d] => { results := [.lit (.bool false)], args := [d] }
  | _ => none }
def TextLinesWrongFalsely : Prop := textLinesRow.holds Try.pinned (OpenSpec.ofChange textLinesWrong)

/-- 'anagnostlaw1.TextFolds': WHATEVER THE INPUT: true; the input reads as it did. -/
def textFoldsSpec : ChangeSpec := { name := "textFolds", fn := fun _ => fun
  | [d] => { results := [.lit (.bool true)], args := [d] }
  | _ => none }
def textFoldsRow : OpenClaim := { program := "ytmhbdalemgmfcaa", sum := "946dfd6eb90066afb7cca47afc485d8e15883fdb25310f945214da5f4ad5c946", func := "anagnost/anagnostlaw1.TextFolds", spec := "textFolds", inPlace := ["internal/abi.NoEscape", "internal/bytealg.IndexByteString", "internal/bytealg.MakeNoZero"], apart := false }
def TextFoldsSaid : Prop := textFoldsRow.holds Try.pinned (OpenSpec.ofChange textFoldsSpec)

/-- ITS FALSE NEIGHBOUR: 'it returns false'. Refute it at one input. -/
def textFoldsWrong : ChangeSpec := { name := "textFolds", fn := fun _ => fun
  | [d] => { results := [.lit (.bool false)], args := [d] }
  | _ => none }
def TextFoldsWrongFalsely : Prop := textFoldsRow.holds Try.pinned (OpenSpec.ofChange textFoldsWrong)

/-- 'anagnostlaw1.TextKnown': WHATEVER THE INPUT: true; the input reads as it did. -/
def textKnownSpec : ChangeSpec := { name := "textKnown", fn := fun _ => fun
  | [d] => { results := [.lit (.bool true)], args := [d] }
  | _ => none }
def textKnownRow : OpenClaim := { program := "ytmhbdalemgmfcaa", sum := "946dfd6eb90066afb7cca47afc485d8e15883fdb25310f945214da5f4ad5c946", func := "anagnost/anagnostlaw1.TextKnown", spec := "textKnown", inPlace := ["internal/abi.NoEscape", "internal/bytealg.IndexByteString", "internal/bytealg.MakeNoZero"], apart := false }
def TextKnownSaid : Prop := textKnownRow.holds Try.pinned (OpenSpec.ofChange textKnownSpec)

/-- ITS FALSE NEIGHBOUR: 'it returns false'. Refute it at one input. -/
def textKnownWrong : ChangeSpec := { name := "textKnown", fn := fun _ => fun
  | [d] => { results := [.lit (.bool false)], args := [d] }
  | _ => none }
def TextKnownWrongFalsely : Prop := textKnownRow.holds Try.pinned (OpenSpec.ofChange textKnownWrong)

/-- 'anagnostlaw1.TextOwn': WHATEVER THE INPUT: true; the input reads as it did. -/
def textOwnSpec : ChangeSpec := { name := "textOwn", fn := fun _ => fun
  | [d] => { results := [.lit (.bool true)], args := [d] }
  | _ => none }
def textOwnRow : OpenClaim := { program := "ytmhbdalemgmfcaa", sum := "946dfd6eb90066afb7cca47afc485d8e15883fdb25310f945214da5f4ad5c946", func := "anagnost/anagnostlaw1.TextOwn", spec := "textOwn", inPlace := ["internal/abi.NoEscape", "internal/bytealg.IndexByteString", "internal/bytealg.MakeNoZero"], apart := false }
def TextOwnSaid : Prop := textOwnRow.holds Try.pinned (OpenSpec.ofChange textOwnSpec)

/-- ITS FALSE NEIGHBOUR: 'it returns false'. Refute it at one input. -/
def textOwnWrong : ChangeSpec := { name := "textOwn", fn := fun _ => fun
  | [d] => { results := [.lit (.bool false)], args := [d] }
  | _ => none }
def TextOwnWrongFalsely : Prop := textOwnRow.holds Try.pinned (OpenSpec.ofChange textOwnWrong)

/-- 'anagnostlaw1.TextWords': WHATEVER THE INPUT: true; the input reads as it did. -/
def textWordsSpec : ChangeSpec := { name := "textWords", fn := fun _ => fun
  | [d] => { results := [.lit (.bool true)], args := [d] }
  | _ => none }
def textWordsRow : OpenClaim := { program := "ytmhbdalemgmfcaa", sum := "946dfd6eb90066afb7cca47afc485d8e15883fdb25310f945214da5f4ad5c946", func := "anagnost/anagnostlaw1.TextWords", spec := "textWords", inPlace := ["internal/abi.NoEscape", "internal/bytealg.IndexByteString", "internal/bytealg.MakeNoZero"], apart := false }
def TextWordsSaid : Prop := textWordsRow.holds Try.pinned (OpenSpec.ofChange textWordsSpec)

/-- ITS FALSE NEIGHBOUR: 'it returns false'. Refute it at one input. -/
def textWordsWrong : ChangeSpec := { name := "textWords", fn := fun _ => fun
  | [d] => { results := [.lit (.bool false)], args := [d] }
  | _ => none }
def TextWordsWrongFalsely : Prop := textWordsRow.holds Try.pinned (OpenSpec.ofChange textWordsWrong)

/-- 'anagnostlaw1.TextPlain': WHATEVER THE INPUT: true; the input reads as it did. -/
def textPlainSpec : ChangeSpec := { name := "textPlain", fn := fun _ => fun
  | [d] => { results := [.lit (.bool true)], args := [d] }
  | _ => none }
def textPlainRow : OpenClaim := { program := "ytmhbdalemgmfcaa", sum := "946dfd6eb90066afb7cca47afc485d8e15883fdb25310f945214da5f4ad5c946", func := "anagnost/anagnostlaw1.TextPlain", spec := "textPlain", inPlace := ["internal/abi.NoEscape", "internal/bytealg.IndexByteString", "internal/bytealg.MakeNoZero"], apart := false }
def TextPlainSaid : Prop := textPlainRow.holds Try.pinned (OpenSpec.ofChange textPlainSpec)

/-- ITS FALSE NEIGHBOUR: 'it returns false'. Refute it at one input. -/
def textPlainWrong : ChangeSpec := { name := "textPlain", fn := fun _ => fun
  | [d] => { results := [.lit (.bool false)], args := [d] }
  | _ => none }
def TextPlainWrongFalsely : Prop := textPlainRow.holds Try.pinned (OpenSpec.ofChange textPlainWrong)

/-- 'anagnostlaw1.TextDecodes': WHATEVER THE INPUT: true; the input reads as it did. -/
def textDecodesSpec : ChangeSpec := { name := "textDecodes", fn := fun _ => fun
  | [d] => { results := [.lit (.bool true)], args := [d] }
  | _ => none }
def textDecodesRow : OpenClaim := { program := "ytmhbdalemgmfcaa", sum := "946dfd6eb90066afb7cca47afc485d8e15883fdb25310f945214da5f4ad5c946", func := "anagnost/anagnostlaw1.TextDecodes", spec := "textDecodes", inPlace := ["internal/abi.NoEscape", "internal/bytealg.IndexByteString", "internal/bytealg.MakeNoZero"], apart := false }
def TextDecodesSaid : Prop := textDecodesRow.holds Try.pinned (OpenSpec.ofChange textDecodesSpec)

/-- ITS FALSE NEIGHBOUR: 'it returns false'. Refute it at one input. -/
def textDecodesWrong : ChangeSpec := { name := "textDecodes", fn := fun _ => fun
  | [d] => { results := [.lit (.bool false)], args := [d] }
  | _ => none }
def TextDecodesWrongFalsely : Prop := textDecodesRow.holds Try.pinned (OpenSpec.ofChange textDecodesWrong)

/-- 'anagnostlaw1.TextWholes': WHATEVER THE INPUT: true; the input reads as it did. -/
def textWholesSpec : ChangeSpec := { name := "textWholes", fn := fun _ => fun
  | [d] => { results := [.lit (.bool true)], args := [d] }
  | _ => none }
def textWholesRow : OpenClaim := { program := "ytmhbdalemgmfcaa", sum := "946dfd6eb90066afb7cca47afc485d8e15883fdb25310f945214da5f4ad5c946", func := "anagnost/anagnostlaw1.TextWholes", spec := "textWholes", inPlace := ["internal/abi.NoEscape", "internal/bytealg.IndexByteString", "internal/bytealg.MakeNoZero"], apart := false }
def TextWholesSaid : Prop := textWholesRow.holds Try.pinned (OpenSpec.ofChange textWholesSpec)

/-- ITS FALSE NEIGHBOUR: 'it returns false'. Refute it at one input. -/
def textWholesWrong : ChangeSpec := { name := "textWholes", fn := fun _ => fun
  | [d] => { results := [.lit (.bool false)], args := [d] }
  | _ => none }
def TextWholesWrongFalsely : Prop := textWholesRow.holds Try.pinned (OpenSpec.ofChange textWholesWrong)

/-- 'anagnostlaw1.TextSigns': WHATEVER THE INPUT: true; the input reads as it did. -/
def textSignsSpec : ChangeSpec := { name := "textSigns", fn := fun _ => fun
  | [d] => { results := [.lit (.bool true)], args := [d] }
  | _ => none }
def textSignsRow : OpenClaim := { program := "ytmhbdalemgmfcaa", sum := "946dfd6eb90066afb7cca47afc485d8e15883fdb25310f945214da5f4ad5c946", func := "anagnost/anagnostlaw1.TextSigns", spec := "textSigns", inPlace := ["internal/abi.NoEscape", "internal/bytealg.IndexByteString", "internal/bytealg.MakeNoZero"], apart := false }
def TextSignsSaid : Prop := textSignsRow.holds Try.pinned (OpenSpec.ofChange textSignsSpec)

/-- ITS FALSE NEIGHBOUR: 'it returns false'. Refute it at one input. -/
def textSignsWrong : ChangeSpec := { name := "textSigns", fn := fun _ => fun
  | [d] => { results := [.lit (.bool false)], args := [d] }
  | _ => none }
def TextSignsWrongFalsely : Prop := textSignsRow.holds Try.pinned (OpenSpec.ofChange textSignsWrong)

/-- 'anagnostlaw1.TextJoins': WHATEVER THE INPUT: true; the input reads as it did. -/
def textJoinsSpec : ChangeSpec := { name := "textJoins", fn := fun _ => fun
  | [d1, d2] => { results := [.lit (.bool true)], args := [d1, d2] }
  | _ => none }
def textJoinsRow : OpenClaim := { program := "ytmhbdalemgmfcaa", sum := "946dfd6eb90066afb7cca47afc485d8e15883fdb25310f945214da5f4ad5c946", func := "anagnost/anagnostlaw1.TextJoins", spec := "textJoins", inPlace := ["internal/abi.NoEscape", "internal/bytealg.IndexByteString", "internal/bytealg.MakeNoZero"], apart := false }
def TextJoinsSaid : Prop := textJoinsRow.holds Try.pinned (OpenSpec.ofChange textJoinsSpec)

/-- ITS FALSE NEIGHBOUR: 'it returns false'. Refute it at one input. -/
def textJoinsWrong : ChangeSpec := { name := "textJoins", fn := fun _ => fun
  | [d1, d2] => { results := [.lit (.bool false)], args := [d1, d2] }
  | _ => none }
def TextJoinsWrongFalsely : Prop := textJoinsRow.holds Try.pinned (OpenSpec.ofChange textJoinsWrong)

/- THE SECOND FORM. 'bulk': how many values and letters a reading holds, each counted each time it is reached (what is shared counts as often as it is met; a slice's spare places count too). A statement '..UptoSaid' is the law's where the arguments, and the package variables that the reading takes, are together of bulk at most 1048576: NARROWER than '..Said'. Prove '..Said' where nothing that the law and all that it calls make is longer than what came in: it says more and counts as full. Else prove '..UptoSaid'. A law counts once. -/
mutual
def uptoBulk {H : Type} : DataW H → Nat
  | .lit (.string bytes) => bytes.length + 1
  | .lit _ => 1
  | .nil => 1
  | .ptr d => uptoBulk d + 1
  | .slice elems spare => uptoBulkAll elems + uptoBulkAll spare + 1
  | .agg parts => uptoBulkAll parts + 1
  | .iface _ d => uptoBulk d + 1
  | .map entries => uptoBulkEntries entries + 1
  | .held _ => 1
def uptoBulkAll {H : Type} : List (DataW H) → Nat
  | [] => 0
  | d :: r => uptoBulk d + uptoBulkAll r
def uptoBulkEntries {H : Type} : List (Lit × DataW H) → Nat
  | [] => 0
  | x :: r => uptoBulkEntry x + uptoBulkEntries r
def uptoBulkEntry {H : Type} : Lit × DataW H → Nat
  | (.string bytes, d) => bytes.length + uptoBulk d + 1
  | (_, d) => uptoBulk d + 1
 end
def uptoSmall : (H : Type) → List (DataW H) → Bool := fun _ ds => decide (uptoBulkAll ds ≤ 1048576)
def OpenSpec.upto (s : _root_.Go.ChangeSpec) : _root_.Go.OpenSpec := { _root_.Go.OpenSpec.ofChange s with cond := some uptoSmall }

/-- 'anagnostlaw1.TextLines', WHERE WHAT IT READS IS OF BULK AT MOST 1048576: true; the input reads as it did. -/
def textLinesUptoRow : OpenClaim := { program := "ytmhbdalemgmfcaa", sum := "946dfd6eb90066afb7cca47afc485d8e15883fdb25310f945214da5f4ad5c946", func := "anagnost/anagnostlaw1.TextLines", spec := "textLines", inPlace := ["internal/abi.NoEscape", "internal/bytealg.IndexByteString", "internal/bytealg.MakeNoZero"], apart := false, narrowed := true }
def TextLinesUptoSaid : Prop := textLinesUptoRow.holds Try.pinned (OpenSpec.upto textLinesSpec)

/-- 'anagnostlaw1.TextFolds', WHERE WHAT IT READS IS OF BULK AT MOST 1048576: true; the input reads as it did. -/
def textFoldsUptoRow : OpenClaim := { program := "ytmhbdalemgmfcaa", sum := "946dfd6eb90066afb7cca47afc485d8e15883fdb25310f945214da5f4ad5c946", func := "anagnost/anagnostlaw1.TextFolds", spec := "textFolds", inPlace := ["internal/abi.NoEscape", "internal/bytealg.IndexByteString", "internal/bytealg.MakeNoZero"], apart := false, narrowed := true }
def TextFoldsUptoSaid : Prop := textFoldsUptoRow.holds Try.pinned (OpenSpec.upto textFoldsSpec)

/-- 'anagnostlaw1.TextKnown', WHERE WHAT IT READS IS OF BULK AT MOST 1048576: true; the input reads as it did. -/
def textKnownUptoRow : OpenClaim := { program := "ytmhbdalemgmfcaa", sum := "946dfd6eb90066afb7cca47afc485d8e15883fdb25310f945214da5f4ad5c946", func := "anagnost/anagnostlaw1.TextKnown", spec := "textKnown", inPlace := ["internal/abi.NoEscape", "internal/bytealg.IndexByteString", "internal/bytealg.MakeNoZero"], apart := false, narrowed := true }
def TextKnownUptoSaid : Prop := textKnownUptoRow.holds Try.pinned (OpenSpec.upto textKnownSpec)

/-- 'anagnostlaw1.TextOwn', WHERE WHAT IT READS IS OF BULK AT MOST 1048576: true; the input reads as it did. -/
def textOwnUptoRow : OpenClaim := { program := "ytmhbdalemgmfcaa", sum := "946dfd6eb90066afb7cca47afc485d8e15883fdb25310f945214da5f4ad5c946", func := "anagnost/anagnostlaw1.TextOwn", spec := "textOwn", inPlace := ["internal/abi.NoEscape", "internal/bytealg.IndexByteString", "internal/bytealg.MakeNoZero"], apart := false, narrowed := true }
def TextOwnUptoSaid : Prop := textOwnUptoRow.holds Try.pinned (OpenSpec.upto textOwnSpec)

/-- 'anagnostlaw1.TextWords', WHERE WHAT IT READS IS OF BULK AT MOST 1048576: true; the input reads as it did. -/
def textWordsUptoRow : OpenClaim := { program := "ytmhbdalemgmfcaa", sum := "946dfd6eb90066afb7cca47afc485d8e15883fdb25310f945214da5f4ad5c946", func := "anagnost/anagnostlaw1.TextWords", spec := "textWords", inPlace := ["internal/abi.NoEscape", "internal/bytealg.IndexByteString", "internal/bytealg.MakeNoZero"], apart := false, narrowed := true }
def TextWordsUptoSaid : Prop := textWordsUptoRow.holds Try.pinned (OpenSpec.upto textWordsSpec)

/-- 'anagnostlaw1.TextPlain', WHERE WHAT IT READS IS OF BULK AT MOST 1048576: true; the input reads as it did. -/
def textPlainUptoRow : OpenClaim := { program := "ytmhbdalemgmfcaa", sum := "946dfd6eb90066afb7cca47afc485d8e15883fdb25310f945214da5f4ad5c946", func := "anagnost/anagnostlaw1.TextPlain", spec := "textPlain", inPlace := ["internal/abi.NoEscape", "internal/bytealg.IndexByteString", "internal/bytealg.MakeNoZero"], apart := false, narrowed := true }
def TextPlainUptoSaid : Prop := textPlainUptoRow.holds Try.pinned (OpenSpec.upto textPlainSpec)

/-- 'anagnostlaw1.TextDecodes', WHERE WHAT IT READS IS OF BULK AT MOST 1048576: true; the input reads as it did. -/
def textDecodesUptoRow : OpenClaim := { program := "ytmhbdalemgmfcaa", sum := "946dfd6eb90066afb7cca47afc485d8e15883fdb25310f945214da5f4ad5c946", func := "anagnost/anagnostlaw1.TextDecodes", spec := "textDecodes", inPlace := ["internal/abi.NoEscape", "internal/bytealg.IndexByteString", "internal/bytealg.MakeNoZero"], apart := false, narrowed := true }
def TextDecodesUptoSaid : Prop := textDecodesUptoRow.holds Try.pinned (OpenSpec.upto textDecodesSpec)

/-- 'anagnostlaw1.TextWholes', WHERE WHAT IT READS IS OF BULK AT MOST 1048576: true; the input reads as it did. -/
def textWholesUptoRow : OpenClaim := { program := "ytmhbdalemgmfcaa", sum := "946dfd6eb90066afb7cca47afc485d8e15883fdb25310f945214da5f4ad5c946", func := "anagnost/anagnostlaw1.TextWholes", spec := "textWholes", inPlace := ["internal/abi.NoEscape", "internal/bytealg.IndexByteString", "internal/bytealg.MakeNoZero"], apart := false, narrowed := true }
def TextWholesUptoSaid : Prop := textWholesUptoRow.holds Try.pinned (OpenSpec.upto textWholesSpec)

/-- 'anagnostlaw1.TextSigns', WHERE WHAT IT READS IS OF BULK AT MOST 1048576: true; the input reads as it did. -/
def textSignsUptoRow : OpenClaim := { program := "ytmhbdalemgmfcaa", sum := "946dfd6eb90066afb7cca47afc485d8e15883fdb25310f945214da5f4ad5c946", func := "anagnost/anagnostlaw1.TextSigns", spec := "textSigns", inPlace := ["internal/abi.NoEscape", "internal/bytealg.IndexByteString", "internal/bytealg.MakeNoZero"], apart := false, narrowed := true }
def TextSignsUptoSaid : Prop := textSignsUptoRow.holds Try.pinned (OpenSpec.upto textSignsSpec)

/-- 'anagnostlaw1.TextJoins', WHERE WHAT IT READS IS OF BULK AT MOST 1048576: true; the input reads as it did. -/
def textJoinsUptoRow : OpenClaim := { program := "ytmhbdalemgmfcaa", sum := "946dfd6eb90066afb7cca47afc485d8e15883fdb25310f945214da5f4ad5c946", func := "anagnost/anagnostlaw1.TextJoins", spec := "textJoins", inPlace := ["internal/abi.NoEscape", "internal/bytealg.IndexByteString", "internal/bytealg.MakeNoZero"], apart := false, narrowed := true }
def TextJoinsUptoSaid : Prop := textJoinsUptoRow.holds Try.pinned (OpenSpec.upto textJoinsSpec)

end Rows
end Go.Proofs.Ytmhbdalemgmfcaa
