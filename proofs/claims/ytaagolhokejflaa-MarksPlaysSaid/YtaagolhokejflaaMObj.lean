import Derived.Test.YtaagolhokejflaaZP
/- What a list of marks in memory says: plain data, and how it reads. -/
namespace Go.Proofs.Ytaagolhokejflaa.M
open Go Go.Z Go.Proofs
set_option linter.unusedVariables false
abbrev At := ByteArray × ByteArray
structure Mark where
  node : Int
  name : ByteArray
  attrs : List At
structure MV where
  node : Int
  name : ByteArray
  attrs : Value
def MV.z : MV := ⟨0, ByteArray.empty, .slice none 0 0⟩
def Mark.z : Mark := ⟨0, ByteArray.empty, []⟩
def at0 : At := (ByteArray.empty, ByteArray.empty)
def encM : List MV → List Value
  | [] => []
  | m :: r => .int .i64 m.node :: .string m.name :: m.attrs :: encM r
def encA : List At → List Value
  | [] => []
  | m :: r => .string m.1 :: .string m.2 :: encA r
theorem encM_len : ∀ l : List MV, (encM l).length = l.length * 3
  | [] => rfl
  | m :: r => by simp [encM, encM_len r]; omega
theorem encA_len : ∀ l : List At, (encA l).length = l.length * 2
  | [] => rfl
  | m :: r => by simp [encA, encA_len r]; omega
theorem encM_app : ∀ l r : List MV, encM (l ++ r) = encM l ++ encM r
  | [], r => rfl
  | m :: l, r => by simp [encM, encM_app l r]
theorem encM_take : ∀ (l : List MV) (k : Nat), encM (l.take k) = (encM l).take (k * 3)
  | [], k => by simp [encM]
  | m :: l, 0 => by simp [encM]
  | m :: l, k + 1 => by simp [encM, encM_take l k, show (k + 1) * 3 = k * 3 + 1 + 1 + 1 by omega]
theorem encM_drop : ∀ (l : List MV) (k : Nat), encM (l.drop k) = (encM l).drop (k * 3)
  | [], k => by simp [encM]
  | m :: l, 0 => by simp [encM]
  | m :: l, k + 1 => by simp [encM, encM_drop l k, show (k + 1) * 3 = k * 3 + 1 + 1 + 1 by omega]
theorem encM_get : ∀ (l : List MV) (i : Nat), i < l.length → (encM l)[i * 3]? = some (.int .i64 (l.getD i MV.z).node) ∧ (encM l)[i * 3 + 1]? = some (.string (l.getD i MV.z).name) ∧ (encM l)[i * 3 + 2]? = some (l.getD i MV.z).attrs
  | [], i, h => by simp at h
  | m :: l, 0, h => by simp [encM]
  | m :: l, i + 1, h => by
    have := encM_get l i (by simpa using h)
    simpa [encM, show (i + 1) * 3 = i * 3 + 1 + 1 + 1 by omega, show i * 3 + 1 + 1 + 1 + 1 = (i * 3 + 1) + 1 + 1 + 1 by omega, show i * 3 + 1 + 1 + 1 + 2 = (i * 3 + 2) + 1 + 1 + 1 by omega] using this
theorem encA_get : ∀ (l : List At) (i : Nat), i < l.length → (encA l)[i * 2]? = some (.string (l.getD i at0).1) ∧ (encA l)[i * 2 + 1]? = some (.string (l.getD i at0).2)
  | [], i, h => by simp at h
  | m :: l, 0, h => by simp [encA]
  | m :: l, i + 1, h => by
    have := encA_get l i (by simpa using h)
    simpa [encA, show (i + 1) * 2 = i * 2 + 1 + 1 by omega, show i * 2 + 1 + 1 + 1 = (i * 2 + 1) + 1 + 1 by omega] using this
theorem encA_one : ∀ (l : List At), ∀ u ∈ encA l, u.oneCell' = true
  | [], u, h => by simp [encA] at h
  | m :: r, u, h => by
    simp only [encA, List.mem_cons] at h
    rcases h with rfl | rfl | h
    · rfl
    · rfl
    · exact encA_one r u h
/-- a slice of attributes -/
def AttrS (w : World) (v : Value) (l : List At) : Prop := RdS w 47 2 v l.length (encA l)
theorem AttrS.form {w : World} {v : Value} {l : List At} (h : AttrS w v l) : ∃ A c, v = .slice A l.length c ∧ l.length ≤ c := RdS.form h
theorem AttrS.no {w w' : World} {v : Value} {l : List At} (h : AttrS w v l) (hc : Chg w w' No) : AttrS w' v l := RdS.no h hc
theorem AttrS.nil (w : World) : AttrS w (.slice none 0 0) [] := RdS.nil
/-- one mark -/
def MR (w : World) (m : MV) (x : Mark) : Prop := m.node = x.node ∧ m.name = x.name ∧ AttrS w m.attrs x.attrs
/-- the list of marks behind a pointer to block g (of type st), its row the slice v -/
def IsM (w : World) (st g : Nat) (v : Value) (L : List Mark) : Prop := Blk w g st [v] ∧ ∃ ms, Own w 32 3 v ms.length (encM ms) ∧ All2 (MR w) ms L
/-- what its calls may write -/
def foot (g : Nat) (v : Value) : Nat → Prop := fun k => k = g ∨ v.ownBlock = some k
section
variable {w w' : World} {st g : Nat} {v : Value} {L : List Mark} {S : Nat → Prop}
theorem IsM.chg (h : IsM w st g v L) (hc : Chg w w' S) (hg : ¬ S g) (hv : ∀ k, v.ownBlock = some k → ¬ S k) (h47 : ∀ b cells, Blk w b 47 cells → ¬ S b) : IsM w' st g v L := by
  obtain ⟨h1, ms, h2, h3⟩ := h
  exact ⟨h1.chg hc hg, ms, h2.chg hc hv, h3.imp (fun a b ⟨h4, h5, h6⟩ => ⟨h4, h5, RdS.chg h6 hc h47⟩)⟩
theorem IsM.no (h : IsM w st g v L) (hc : Chg w w' No) : IsM w' st g v L := h.chg hc id (fun _ _ => id) (fun _ _ _ => id)
theorem IsM.form (h : IsM w st g v L) : ∃ A c, v = .slice A L.length c ∧ L.length ≤ c := by
  obtain ⟨h1, ms, h2, h3⟩ := h
  have := h2.rd.form
  rwa [h3.length] at this
theorem IsM.foot47 (h : IsM w st g v L) (hst : st ≠ 47) : ∀ b cells, Blk w b 47 cells → ¬ foot g v b := by
  intro b cells hb hf
  obtain ⟨h1, ms, h2, h3⟩ := h
  rcases hf with rfl | hf
  · exact hst (h1.inj hb).1
  · exact h2.ne hf hb (by decide) rfl
theorem IsM.ne (h : IsM w st g v L) (hst : st ≠ 32) : v.ownBlock ≠ some g := fun he => by
  obtain ⟨h1, ms, h2, h3⟩ := h
  exact h2.ne he h1 (Ne.symm hst) rfl
theorem IsM.lt (h : IsM w st g v L) : ∀ k, foot g v k → k < w.heap.size := by
  obtain ⟨h1, ms, h2, h3⟩ := h
  rintro k (rfl | hk)
  · exact h1.lt
  · exact h2.lt hk
/-- an element's cells -/
theorem IsM.at_ (h : IsM w st g v L) (i : Nat) (hi : i < L.length) : ∃ b c A, v = .slice (some ⟨b, 0, none⟩) L.length c ∧ w.cell? ⟨b, i * 3, none⟩ = some (.int .i64 (L.getD i Mark.z).node) ∧ w.cell? ⟨b, i * 3 + 1, none⟩ = some (.string (L.getD i Mark.z).name) ∧
    w.cell? ⟨b, i * 3 + 2, none⟩ = some A ∧ AttrS w A (L.getD i Mark.z).attrs := by
  obtain ⟨h1, ms, h2, h3⟩ := h
  have hlen := h3.length
  obtain ⟨h4, h5⟩ := h2.cases
  rcases h5 with ⟨rfl, h6, h7⟩ | ⟨b, cap, junk, rfl, h6, h7, h8, h9⟩
  · omega
  · obtain ⟨g1, g2, g3⟩ := h3.get MV.z Mark.z i hi
    obtain ⟨e1, e2, e3⟩ := encM_get ms i (by omega)
    have hlt : i * 3 + 2 < (encM ms).length := by rw [encM_len]; omega
    refine ⟨b, cap, (ms.getD i MV.z).attrs, by rw [hlen], ?_, ?_, ?_, g3⟩
    · rw [h8.cell, List.getElem?_append_left (by omega), e1, g1]
    · rw [h8.cell, List.getElem?_append_left (by omega), e2, g2]
    · rw [h8.cell, List.getElem?_append_left (by omega), e3]
end
/-- the place behind the last wall, seen from n down -/
def beginN (L : List Mark) : Nat → Nat
  | 0 => 0
  | i + 1 => if 0 ≤ (L.getD i Mark.z).node then beginN L i else i + 1
theorem beginN_le (L : List Mark) : ∀ n, beginN L n ≤ n
  | 0 => Nat.le_refl 0
  | i + 1 => by unfold beginN; have := beginN_le L i; split <;> omega
end Go.Proofs.Ytaagolhokejflaa.M
