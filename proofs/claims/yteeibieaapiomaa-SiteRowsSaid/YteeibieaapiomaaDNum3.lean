import Derived.Test.YteeibieaapiomaaDNum2
/- numbered, Number; the document's. -/
namespace Go.Proofs.Yteeibieaapiomaa.D
open Go Go.Z Go.Proofs
set_option linter.unusedVariables false
theorem NewS.ok {B : Nat} {v : Value} (h : NewS B v) {n : Nat} : 0 < n → ∀ b, v.ownBlock = some b → B ≤ b := fun _ b hb => h b hb
end Go.Proofs.Yteeibieaapiomaa.D
