import Derived.Test.YteeibieaapiomaaDDoc6
/- Move. -/
namespace Go.Proofs.Yteeibieaapiomaa.D
open Go Go.Z Go.Proofs
set_option linter.unusedVariables false
theorem set_self {α : Type} (l : List α) (i : Nat) (d : α) (hi : i < l.length) : l.set i (l.getD i d) = l := by
  apply List.ext_getElem?
  intro j
  rw [List.getElem?_set]
  by_cases h : i = j
  · subst h; rw [if_pos rfl, if_pos hi, List.getD_eq_getElem?_getD, List.getElem?_eq_getElem hi]; rfl
  · rw [if_neg h]
theorem upsN_snoc : ∀ (ks : List Nat) (N : List ND) (k b : Nat), upsN N (ks ++ [k]) b = (upsN N ks b).set k { (upsN N ks b).getD k n0 with up := b }
  | [], N, k, b => rfl
  | j :: r, N, k, b => by
    show upsN _ (r ++ [k]) b = _
    rw [upsN_snoc r]; rfl
theorem upsN_kids (N : List ND) (ks : List Nat) (b i : Nat) (h : ∀ k ∈ ks, k < N.length) : ((upsN N ks b).getD i n0).kids = (N.getD i n0).kids := by
  rw [upsN_get ks N b h]; split <;> rfl
def MoveOk (N : List ND) (a b : Int) : Prop := (isN N a ∧ (ndOf N a).kind = 1) ∧ (isN N b ∧ (ndOf N b).kind = 1) ∧ ¬ Anc N b.toNat a.toNat
def MoveR (N : List ND) (a b : Int) (q : Bool) (N' : List ND) : Prop := (MoveOk N a b → q = true ∧ N' = moveN N a.toNat b.toNat) ∧ (¬ MoveOk N a b → q = false ∧ N' = N)
theorem MoveR.det {N N1 N2 : List ND} {a b : Int} {q1 q2 : Bool} (h1 : MoveR N a b q1 N1) (h2 : MoveR N a b q2 N2) : q1 = q2 ∧ N1 = N2 := by
  by_cases h : MoveOk N a b
  · obtain ⟨x, y⟩ := h1.1 h; obtain ⟨c, d⟩ := h2.1 h; exact ⟨x.trans c.symm, y.trans d.symm⟩
  · obtain ⟨x, y⟩ := h1.2 h; obtain ⟨c, d⟩ := h2.2 h; exact ⟨x.trans c.symm, y.trans d.symm⟩
theorem MoveR.wf {N N' : List ND} {a b : Int} {q : Bool} (h : MoveR N a b q N') (hW : WF N) : WF N' ∧ N'.length = N.length := by
  by_cases ho : MoveOk N a b
  · rw [(h.1 ho).2]
    obtain ⟨⟨⟨h1, h2⟩, _⟩, ⟨⟨h3, h4⟩, _⟩, h5⟩ := ho
    exact ⟨hW.move (by omega) (by omega) h5, moveN_len _ _ _⟩
  · rw [(h.2 ho).2]; exact ⟨hW, rfl⟩
end Go.Proofs.Yteeibieaapiomaa.D
