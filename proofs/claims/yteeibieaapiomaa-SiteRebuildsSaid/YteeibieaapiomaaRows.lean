/-
  No cell of these rows narrows 'for every input' (looked for: loops, veiled, ifaces, maps, wideKeys, modest, calm, conditions, laid).
  DERIVED. THE GIVEN ROWS OF THIS SEAT. 5 by the template 'for every input the law returns true; each argument reads behind the call as it read before'; 0 by the template 'total and deterministic' (their statements: YteeibieaapiomaaTotals.lean).
  GIVEN WITH THE SEED: the statements are not yours to turn. If you find one false, say at which input.
  Laid BY PROGRAM, IN A SANDBOX (cutbox-rows.mjs): the forced cells as the released guide's own fill.sh prints them over the translation 3a14b8d8f7d90731… (all of the seat's roots in one cut). By AI agents, Wed Nov 11 2026. No macro, syntax, notation, axiom, sorry.
-/
import Derived.Test.YteeibieaapiomaaChecked
import GoSem.Claim
import GoSem.ClaimJoined
import GoSem.ClaimMapViews
import Derived.JoinedTies
import Derived.KernelRfl
namespace Go.Proofs.Yteeibieaapiomaa
/- THE CELL 'sum', in the pinned program and in every row, IS THE sha256 OF THE DUMP (.gsa) THAT YteeibieaapiomaaProg.lean LOADS. Nothing in Lean hashes anything: it is a label: what it is worth is what the hold of that sum in a sandbox is worth. -/
noncomputable def Try.pinned : Pinned := { name := "yteeibieaapiomaa", sum := "3a14b8d8f7d90731f40292d4259ba0d5521c423836e06c9f3e87e5b68d56d255", checked := Try.checked }
namespace Rows
def none {H : Type} : Left H := { results := [], args := [] }

/-- 'anagnostlaw8.SiteRows': WHATEVER THE INPUT: true; the input reads as it did. -/
def siteRowsSpec : ChangeSpec := { name := "siteRows", fn := fun _ => fun
  | [d] => { results := [.lit (.bool true)], args := [d] }
  | _ => none }
def siteRowsRow : OpenClaim := { program := "yteeibieaapiomaa", sum := "3a14b8d8f7d90731f40292d4259ba0d5521c423836e06c9f3e87e5b68d56d255", func := "anagnost/anagnostlaw8.SiteRows", spec := "siteRows", inPlace := ["slices.overlaps[anagnost/site.entry]"], recurses := true, apart := false }
def SiteRowsSaid : Prop := siteRowsRow.holds Try.pinned (OpenSpec.ofChange siteRowsSpec)

/-- ITS FALSE NEIGHBOUR: 'it returns false'. Refute it at one input. -/
def siteRowsWrong : ChangeSpec := { name := "siteRows", fn := fun _ => fun
  | [d] => { results := [.lit (.bool false)], args := [d] }
  | _ => none }
def SiteRowsWrongFalsely : Prop := siteRowsRow.holds Try.pinned (OpenSpec.ofChange siteRowsWrong)

/-- 'anagnostlaw8.SiteRebuilds': WHATEVER THE INPUT: true; the input reads as it did. -/
def siteRebuildsSpec : ChangeSpec := { name := "siteRebuilds", fn := fun _ => fun
  | [d1, d2] => { results := [.lit (.bool true)], args := [d1, d2] }
  | _ => none }
def siteRebuildsRow : OpenClaim := { program := "yteeibieaapiomaa", sum := "3a14b8d8f7d90731f40292d4259ba0d5521c423836e06c9f3e87e5b68d56d255", func := "anagnost/anagnostlaw8.SiteRebuilds", spec := "siteRebuilds", inPlace := ["slices.overlaps[anagnost/site.entry]"], recurses := true, apart := false }
def SiteRebuildsSaid : Prop := siteRebuildsRow.holds Try.pinned (OpenSpec.ofChange siteRebuildsSpec)

/-- ITS FALSE NEIGHBOUR: 'it returns false'. Refute it at one input. -/
def siteRebuildsWrong : ChangeSpec := { name := "siteRebuilds", fn := fun _ => fun
  | [d1, d2] => { results := [.lit (.bool false)], args := [d1, d2] }
  | _ => none }
def SiteRebuildsWrongFalsely : Prop := siteRebuildsRow.holds Try.pinned (OpenSpec.ofChange siteRebuildsWrong)

/-- 'anagnostlaw8.SiteScopes': WHATEVER THE INPUT: true; the input reads as it did. -/
def siteScopesSpec : ChangeSpec := { name := "siteScopes", fn := fun _ => fun
  | [d1, d2] => { results := [.lit (.bool true)], args := [d1, d2] }
  | _ => none }
def siteScopesRow : OpenClaim := { program := "yteeibieaapiomaa", sum := "3a14b8d8f7d90731f40292d4259ba0d5521c423836e06c9f3e87e5b68d56d255", func := "anagnost/anagnostlaw8.SiteScopes", spec := "siteScopes", inPlace := ["slices.overlaps[anagnost/site.entry]"], recurses := true, apart := false }
def SiteScopesSaid : Prop := siteScopesRow.holds Try.pinned (OpenSpec.ofChange siteScopesSpec)

/-- ITS FALSE NEIGHBOUR: 'it returns false'. Refute it at one input. -/
def siteScopesWrong : ChangeSpec := { name := "siteScopes", fn := fun _ => fun
  | [d1, d2] => { results := [.lit (.bool false)], args := [d1, d2] }
  | _ => none }
def SiteScopesWrongFalsely : Prop := siteScopesRow.holds Try.pinned (OpenSpec.ofChange siteScopesWrong)

/-- 'anagnostlaw8.SiteFosters': WHATEVER THE INPUT: true; the input reads as it did. -/
def siteFostersSpec : ChangeSpec := { name := "siteFosters", fn := fun _ => fun
  | [d1, d2, d3, d4] => { results := [.lit (.bool true)], args := [d1, d2, d3, d4] }
  | _ => none }
def siteFostersRow : OpenClaim := { program := "yteeibieaapiomaa", sum := "3a14b8d8f7d90731f40292d4259ba0d5521c423836e06c9f3e87e5b68d56d255", func := "anagnost/anagnostlaw8.SiteFosters", spec := "siteFosters", inPlace := ["slices.overlaps[anagnost/site.entry]"], recurses := true, apart := false }
def SiteFostersSaid : Prop := siteFostersRow.holds Try.pinned (OpenSpec.ofChange siteFostersSpec)

/-- ITS FALSE NEIGHBOUR: 'it returns false'. Refute it at one input. -/
def siteFostersWrong : ChangeSpec := { name := "siteFosters", fn := fun _ => fun
  | [d1, d2, d3, d4] => { results := [.lit (.bool false)], args := [d1, d2, d3, d4] }
  | _ => none }
def SiteFostersWrongFalsely : Prop := siteFostersRow.holds Try.pinned (OpenSpec.ofChange siteFostersWrong)

/-- 'anagnostlaw8.SiteKnown': WHATEVER THE INPUT: true; the input reads as it did. -/
def siteKnownSpec : ChangeSpec := { name := "siteKnown", fn := fun _ => fun
  | [d] => { results := [.lit (.bool true)], args := [d] }
  | _ => none }
def siteKnownRow : OpenClaim := { program := "yteeibieaapiomaa", sum := "3a14b8d8f7d90731f40292d4259ba0d5521c423836e06c9f3e87e5b68d56d255", func := "anagnost/anagnostlaw8.SiteKnown", spec := "siteKnown", inPlace := ["slices.overlaps[anagnost/site.entry]"], recurses := true, apart := false }
def SiteKnownSaid : Prop := siteKnownRow.holds Try.pinned (OpenSpec.ofChange siteKnownSpec)

/-- ITS FALSE NEIGHBOUR: 'it returns false'. Refute it at one input. -/
def siteKnownWrong : ChangeSpec := { name := "siteKnown", fn := fun _ => fun
  | [d] => { results := [.lit (.bool false)], args := [d] }
  | _ => none }
def SiteKnownWrongFalsely : Prop := siteKnownRow.holds Try.pinned (OpenSpec.ofChange siteKnownWrong)

/- THE SECOND FORM. 'bulk': how many values and letters a reading holds, each counted each time it is reached (what is shared counts as often as it is met; a slice's spare places count too). A statement '..UptoSaid' is the law's where the arguments, and the package variables that the reading takes, are together of bulk at most 1048576: NARROWER than '..Said'. Prove '..Said' where nothing that the law and all that it calls make is longer than what came in: it says more and counts as full. Else prove '..UptoSaid'. A law counts once. -/
mutual
def uptoBulk {H : Type} : DataW H → Nat
  | .lit (.string bytes) => bytes.length + 1
  | .lit _ => 1
  | .nil => 1
  | .ptr d => uptoBulk d + 1
  | .slice elems spare => uptoBulkAll elems + uptoBulkAll spare + 1
  | .agg parts => uptoBulkAll parts + 1
  | .iface _ d => uptoBulk d + 1
  | .map entries => uptoBulkEntries entries + 1
  | .held _ => 1
def uptoBulkAll {H : Type} : List (DataW H) → Nat
  | [] => 0
  | d :: r => uptoBulk d + uptoBulkAll r
def uptoBulkEntries {H : Type} : List (Lit × DataW H) → Nat
  | [] => 0
  | x :: r => uptoBulkEntry x + uptoBulkEntries r
def uptoBulkEntry {H : Type} : Lit × DataW H → Nat
  | (.string bytes, d) => bytes.length + uptoBulk d + 1
  | (_, d) => uptoBulk d + 1
 end
def uptoSmall : (H : Type) → List (DataW H) → Bool := fun _ ds => decide (uptoBulkAll ds ≤ 1048576)
def OpenSpec.upto (s : _root_.Go.ChangeSpec) : _root_.Go.OpenSpec := { _root_.Go.OpenSpec.ofChange s with cond := some uptoSmall }

/-- 'anagnostlaw8.SiteRows', WHERE WHAT IT READS IS OF BULK AT MOST 1048576: true; the input reads as it did. -/
def siteRowsUptoRow : OpenClaim := { program := "yteeibieaapiomaa", sum := "3a14b8d8f7d90731f40292d4259ba0d5521c423836e06c9f3e87e5b68d56d255", func := "anagnost/anagnostlaw8.SiteRows", spec := "siteRows", inPlace := ["slices.overlaps[anagnost/site.entry]"], recurses := true, apart := false, narrowed := true }
def SiteRowsUptoSaid : Prop := siteRowsUptoRow.holds Try.pinned (OpenSpec.upto siteRowsSpec)

/-- 'anagnostlaw8.SiteRebuilds', WHERE WHAT IT READS IS OF BULK AT MOST 1048576: true; the input reads as it did. -/
def siteRebuildsUptoRow : OpenClaim := { program := "yteeibieaapiomaa", sum := "3a14b8d8f7d90731f40292d4259ba0d5521c423836e06c9f3e87e5b68d56d255", func := "anagnost/anagnostlaw8.SiteRebuilds", spec := "siteRebuilds", inPlace := ["slices.overlaps[anagnost/site.entry]"], recurses := true, apart := false, narrowed := true }
def SiteRebuildsUptoSaid : Prop := siteRebuildsUptoRow.holds Try.pinned (OpenSpec.upto siteRebuildsSpec)

/-- 'anagnostlaw8.SiteScopes', WHERE WHAT IT READS IS OF BULK AT MOST 1048576: true; the input reads as it did. -/
def siteScopesUptoRow : OpenClaim := { program := "yteeibieaapiomaa", sum := "3a14b8d8f7d90731f40292d4259ba0d5521c423836e06c9f3e87e5b68d56d255", func := "anagnost/anagnostlaw8.SiteScopes", spec := "siteScopes", inPlace := ["slices.overlaps[anagnost/site.entry]"], recurses := true, apart := false, narrowed := true }
def SiteScopesUptoSaid : Prop := siteScopesUptoRow.holds Try.pinned (OpenSpec.upto siteScopesSpec)

/-- 'anagnostlaw8.SiteFosters', WHERE WHAT IT READS IS OF BULK AT MOST 1048576: true; the input reads as it did. -/
def siteFostersUptoRow : OpenClaim := { program := "yteeibieaapiomaa", sum := "3a14b8d8f7d90731f40292d4259ba0d5521c423836e06c9f3e87e5b68d56d255", func := "anagnost/anagnostlaw8.SiteFosters", spec := "siteFosters", inPlace := ["slices.overlaps[anagnost/site.entry]"], recurses := true, apart := false, narrowed := true }
def SiteFostersUptoSaid : Prop := siteFostersUptoRow.holds Try.pinned (OpenSpec.upto siteFostersSpec)

/-- 'anagnostlaw8.SiteKnown', WHERE WHAT IT READS IS OF BULK AT MOST 1048576: true; the input reads as it did. -/
def siteKnownUptoRow : OpenClaim := { program := "yteeibieaapiomaa", sum := "3a14b8d8f7d90731f40292d4259ba0d5521c423836e06c9f3e87e5b68d56d255", func := "anagnost/anagnostlaw8.SiteKnown", spec := "siteKnown", inPlace := ["slices.overlaps[anagnost/site.entry]"], recurses := true, apart := false, narrowed := true }
def SiteKnownUptoSaid : Prop := siteKnownUptoRow.holds Try.pinned (OpenSpec.upto siteKnownSpec)

end Rows
end Go.Proofs.Yteeibieaapiomaa
