import Derived.Test.YteeibieaapiomaaDOk
/- Number: the program's, the document's. -/
namespace Go.Proofs.Yteeibieaapiomaa.D
open Go Go.Z Go.Proofs
set_option linter.unusedVariables false
def numH (n : Nat) (x : Hd) : Hd := if x.kind = 2 then { x with fr := n } else x
def nxt (n : Nat) (x : Hd) : Nat := if x.kind = 2 then n + 1 else n
def numT : Nat → NT → NT × Nat
  | n, .nil => (.nil, n)
  | n, .cons x k r => (.cons (numH n x) (numT (nxt n x) k).1 (numT (numT (nxt n x) k).2 r).1, (numT (numT (nxt n x) k).2 r).2)
theorem nxt_le (n : Nat) (x : Hd) : n ≤ nxt n x ∧ nxt n x ≤ n + 1 := by unfold nxt; split <;> omega
theorem numT_le : ∀ (n : Nat) (t : NT), n ≤ (numT n t).2 ∧ (numT n t).2 ≤ n + t.size
  | n, .nil => ⟨Nat.le_refl _, Nat.le_refl _⟩
  | n, .cons x k r => by
    have h1 := nxt_le n x
    have h2 := numT_le (nxt n x) k
    have h3 := numT_le (numT (nxt n x) k).2 r
    simp only [numT, NT.size]
    omega
theorem numH_attrs (n : Nat) (x : Hd) : (numH n x).attrs = x.attrs := by unfold numH; split <;> rfl
theorem numH_kind (n : Nat) (x : Hd) : (numH n x).kind = x.kind := by unfold numH; split <;> rfl
theorem numH_text (n : Nat) (x : Hd) : (numH n x).text = x.text := by unfold numH; split <;> rfl
theorem numH_numH (n : Nat) (x : Hd) : numH n (numH n x) = numH n x := by
  by_cases h : x.kind = 2
  · have : numH n x = { x with fr := n } := by unfold numH; rw [if_pos h]
    rw [this]; unfold numH; rw [if_pos (show ({ x with fr := (n : Int) } : Hd).kind = 2 from h)]
  · have : numH n x = x := by unfold numH; rw [if_neg h]
    rw [this, this]
theorem nxt_numH (n : Nat) (x : Hd) : nxt n (numH n x) = nxt n x := by unfold nxt; rw [numH_kind]
theorem numT_size : ∀ (n : Nat) (t : NT), (numT n t).1.size = t.size
  | n, .nil => rfl
  | n, .cons x k r => by simp only [numT, NT.size, numT_size]
theorem numT_few : ∀ (n : Nat) (t : NT), FewT t → FewT (numT n t).1
  | n, .nil, h => h
  | n, .cons x k r, h => ⟨by rw [numH_attrs]; exact h.1, numT_few _ k h.2.1, numT_few _ r h.2.2⟩
theorem numT_deep : ∀ (n : Nat) (t : NT), deepT (numT n t).1 = deepT t
  | n, .nil => rfl
  | n, .cons x k r => by simp only [numT, deepT, numT_deep]
theorem numT_txts : ∀ (n : Nat) (t : NT), txts (numT n t).1 = txts t
  | n, .nil => rfl
  | n, .cons x k r => by simp only [numT, txts, numT_txts, numH_kind, numH_text]
theorem numT_idem : ∀ (n : Nat) (t : NT), numT n (numT n t).1 = numT n t
  | n, .nil => rfl
  | n, .cons x k r => by
    have e1 := numT_idem (nxt n x) k
    have e2 := numT_idem (numT (nxt n x) k).2 r
    simp only [numT, numH_numH, nxt_numH, e1, e2]
theorem Own.made {w w' : World} {b el sz c : Nat} {z : Array Value} (h : New w w' b el (madeCells z (c * sz)).toList) (hc : c ≤ maxLen) : Own w' el sz (.slice (some ⟨b, 0, none⟩) 0 c) 0 [] :=
  Own.mk' (junk := (madeCells z (c * sz)).toList) (by simp) (Nat.zero_le _) hc h.blk (by simp [size_madeCells]) (by simp)
end Go.Proofs.Yteeibieaapiomaa.D
