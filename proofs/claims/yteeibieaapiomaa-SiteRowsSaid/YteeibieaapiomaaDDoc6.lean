import Derived.Test.YteeibieaapiomaaDDoc5
/- Take, Move. -/
namespace Go.Proofs.Yteeibieaapiomaa.D
open Go Go.Z Go.Proofs
set_option linter.unusedVariables false
theorem optI_eq {x : Option Operand} {e : Env} {d a b : Int} (h : optI x e d = some a) (hab : a = b) : optI x e d = some b := by rw [h, hab]
theorem lay_drop {α : Type} (l : List α) (i : Nat) (h : i < l.length) : (l.take i ++ l.drop (i + 1) ++ l.drop (l.length - 1)).take (l.length - 1) = l.take i ++ l.drop (i + 1) := by
  rw [List.take_append_of_le_length (by simp; omega), List.take_of_length_le (by simp; omega)]
def TakeOk (N : List ND) (n : Int) : Prop := isN N n ∧ 0 ≤ (ndOf N n).up
def TakeR (N : List ND) (n : Int) (q : Bool) (N' : List ND) : Prop := (TakeOk N n → q = true ∧ N' = takeN N n.toNat) ∧ (¬ TakeOk N n → q = false ∧ N' = N)
theorem TakeR.det {N N1 N2 : List ND} {n : Int} {q1 q2 : Bool} (h1 : TakeR N n q1 N1) (h2 : TakeR N n q2 N2) : q1 = q2 ∧ N1 = N2 := by
  by_cases h : TakeOk N n
  · obtain ⟨a, b⟩ := h1.1 h; obtain ⟨c, d⟩ := h2.1 h; exact ⟨a.trans c.symm, b.trans d.symm⟩
  · obtain ⟨a, b⟩ := h1.2 h; obtain ⟨c, d⟩ := h2.2 h; exact ⟨a.trans c.symm, b.trans d.symm⟩
theorem TakeR.wf {N N' : List ND} {n : Int} {q : Bool} (h : TakeR N n q N') (hW : WF N) : WF N' ∧ N'.length = N.length := by
  by_cases ho : TakeOk N n
  · rw [(h.1 ho).2]
    obtain ⟨⟨h1, h2⟩, h3⟩ := ho
    obtain ⟨u, hu⟩ := Int.eq_ofNat_of_zero_le h3
    exact ⟨hW.take (by omega) hu, takeN_len _ _⟩
  · rw [(h.2 ho).2]; exact ⟨hW, rfl⟩
end Go.Proofs.Yteeibieaapiomaa.D
