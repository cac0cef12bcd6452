import Derived.Test.YteeibieaapiomaaDSound
/- Sound, the program's and the document's. -/
namespace Go.Proofs.Yteeibieaapiomaa.D
open Go Go.Z Go.Proofs
set_option linter.unusedVariables false
def e0 : ByteArray := ⟨#[]⟩
def sound1 (x : Hd) (k : NT) : Prop :=
  (x.kind = 1 ∧ 1 ≤ x.space ∧ x.space ≤ 3 ∧ x.name ≠ ⟨#[]⟩ ∧ x.text = ⟨#[]⟩ ∧ x.fr = 0 ∧ ¬ Tw x.attrs) ∨
  (x.kind = 2 ∧ x.space = 0 ∧ x.name = ⟨#[]⟩ ∧ x.attrs.length = 0 ∧ k.len = 0 ∧ x.text ≠ ⟨#[]⟩ ∧ 0 ≤ x.fr) ∨
  (x.kind = 3 ∧ x.space = 0 ∧ x.name = ⟨#[]⟩ ∧ x.attrs.length = 0 ∧ k.len = 0 ∧ x.fr = 0)
def SoundF : Bool → NT → Prop
  | _, .nil => True
  | p, .cons x k r => sound1 x k ∧ SoundF false k ∧ ¬ (p = true ∧ x.kind = 2) ∧ SoundF (decide (x.kind = 2)) r
def prevB (t : NT) : Nat → Bool
  | 0 => false
  | j + 1 => match t.dropN j with
    | .cons x _ _ => decide (x.kind = 2)
    | .nil => false
theorem prevB_succ {t k r : NT} {j : Nat} {x : Hd} (h : t.dropN j = .cons x k r) : prevB t (j + 1) = decide (x.kind = 2) := by
  show (match t.dropN j with | .cons x _ _ => decide (x.kind = 2) | .nil => false) = _
  rw [h]
theorem len0 {k : NT} (h : k.len = 0) : k = .nil := by cases k with | nil => rfl | cons => simp [NT.len] at h
/-- no row of attributes is too long -/
def FewT : NT → Prop
  | .nil => True
  | .cons x k r => x.attrs.length ≤ 100000 ∧ FewT k ∧ FewT r
theorem FewT.drop : ∀ (t : NT) (i : Nat) (x : Hd) (k r : NT), FewT t → t.dropN i = .cons x k r → x.attrs.length ≤ 100000 ∧ FewT k ∧ FewT r
  | .nil, 0, x, k, r, _, h => by cases h
  | .cons _ _ _, 0, x, k, r, hf, h => by cases h; exact hf
  | .nil, i + 1, x, k, r, _, h => by cases h
  | .cons _ _ q, i + 1, x, k, r, hf, h => FewT.drop q i x k r hf.2.2 h
end Go.Proofs.Yteeibieaapiomaa.D
