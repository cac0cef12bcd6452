import Derived.Test.YteeibieaapiomaaDSound2
/- The document's Sound. -/
namespace Go.Proofs.Yteeibieaapiomaa.D
open Go Go.Z Go.Proofs
set_option linter.unusedVariables false
theorem SoundF.k0 {k : NT} (h : k.len = 0) : SoundF false k := by rw [len0 h]; trivial
end Go.Proofs.Yteeibieaapiomaa.D
