import Derived.Test.YteeibieaapiomaaDNum3
/- Small. -/
namespace Go.Proofs.Yteeibieaapiomaa.D
open Go Go.Z Go.Proofs
set_option linter.unusedVariables false
/-- nodes and attributes in all -/
def sizeA : NT → Nat
  | .nil => 0
  | .cons x k r => 1 + x.attrs.length + sizeA k + sizeA r
theorem sizeA_size : ∀ t : NT, t.size ≤ sizeA t
  | .nil => Nat.le_refl _
  | .cons x k r => by have := sizeA_size k; have := sizeA_size r; simp only [sizeA, NT.size]; omega
theorem sizeA_few : ∀ t : NT, sizeA t ≤ 100000 → FewT t
  | .nil, _ => trivial
  | .cons x k r, h => by
    simp only [sizeA] at h
    exact ⟨by omega, sizeA_few k (by omega), sizeA_few r (by omega)⟩
/-- no row is longer than a row may be -/
def RightT : NT → Prop
  | .nil => True
  | .cons x k r => x.attrs.length ≤ 9223372036854775807 ∧ k.len ≤ 9223372036854775807 ∧ RightT k ∧ RightT r
theorem RightT.drop : ∀ (t : NT) (i : Nat) (x : Hd) (k r : NT), RightT t → t.dropN i = .cons x k r → x.attrs.length ≤ 9223372036854775807 ∧ k.len ≤ 9223372036854775807 ∧ RightT k ∧ RightT r
  | .nil, 0, x, k, r, _, h => by cases h
  | .cons _ _ _, 0, x, k, r, hf, h => by cases h; exact hf
  | .nil, i + 1, x, k, r, _, h => by cases h
  | .cons _ _ q, i + 1, x, k, r, hf, h => RightT.drop q i x k r hf.2.2.2 h
end Go.Proofs.Yteeibieaapiomaa.D
