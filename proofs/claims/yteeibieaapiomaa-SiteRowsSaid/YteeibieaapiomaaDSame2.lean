import Derived.Test.YteeibieaapiomaaDSame
/- Same, the program's. -/
namespace Go.Proofs.Yteeibieaapiomaa.D
open Go Go.Z Go.Proofs
set_option linter.unusedVariables false
end Go.Proofs.Yteeibieaapiomaa.D
