import Derived.Test.YteeibieaapiomaaZP
/- Nodes as a tree of slices in memory: plain data, and how it reads. -/
namespace Go.Z
open Go
theorem z_max {P : Program} {n : Nat} {e : Env} {w : World} {Q : Exit → Act → World → Prop} {ops : Array Oper} {rest : List Oper} {d : Tmp} {ty : TypeId} {pos : String} {aft : Array Edge} {g : Option (Nat × Bool)} {x y : Operand} {k : IntKind} {a b : Int} {ats : Array TypeId} (c : Int)
    (hw : Want ops e g) (hdn : d < n) (hx : ev e x = some (.int k a)) (hy : ev e y = some (.int k b)) (hc : c = if b > a then b else a) (h : ZL P n ops rest ((d, .int k c) :: e) w Q) : ZL P n ops (⟨some d, .call { callee := .builtin .max, args := #[x, y], argTypes := ats }, ty, pos, aft, g⟩ :: rest) e w Q :=
  zl_run hw rfl hdn (r_max hx hy hc) h
end Go.Z
namespace Go.Proofs.Yteeibieaapiomaa.D
open Go Go.Z Go.Proofs
set_option linter.unusedVariables false
abbrev At := ByteArray × ByteArray
def at0 : At := (⟨#[]⟩, ⟨#[]⟩)
def encA : List At → List Value
  | [] => []
  | m :: r => .string m.1 :: .string m.2 :: encA r
theorem encA_len : ∀ l : List At, (encA l).length = l.length * 2
  | [] => rfl
  | m :: r => by simp [encA, encA_len r]; omega
theorem encA_get : ∀ (l : List At) (i : Nat), i < l.length → (encA l)[i * 2]? = some (.string (l.getD i at0).1) ∧ (encA l)[i * 2 + 1]? = some (.string (l.getD i at0).2)
  | [], i, h => by simp at h
  | m :: l, 0, h => by simp [encA]
  | m :: l, i + 1, h => by
    have := encA_get l i (by simpa using h)
    simpa [encA, show (i + 1) * 2 = i * 2 + 1 + 1 by omega, show i * 2 + 1 + 1 + 1 = (i * 2 + 1) + 1 + 1 by omega] using this
theorem encA_one : ∀ (l : List At), ∀ u ∈ encA l, u.oneCell' = true
  | [], u, h => by simp [encA] at h
  | m :: r, u, h => by
    simp only [encA, List.mem_cons] at h
    rcases h with rfl | rfl | h
    · rfl
    · rfl
    · exact encA_one r u h
theorem encA_app : ∀ l r : List At, encA (l ++ r) = encA l ++ encA r
  | [], r => rfl
  | m :: l, r => by simp [encA, encA_app l r]
/-- a slice of attributes -/
def AttrS (w : World) (v : Value) (l : List At) : Prop := RdS w 89 2 v l.length (encA l)
theorem AttrS.form {w : World} {v : Value} {l : List At} (h : AttrS w v l) : ∃ A c, v = .slice A l.length c ∧ l.length ≤ c := RdS.form h
theorem AttrS.no {w w' : World} {v : Value} {l : List At} (h : AttrS w v l) (hc : Chg w w' No) : AttrS w' v l := RdS.no h hc
theorem AttrS.nil (w : World) : AttrS w (.slice none 0 0) [] := RdS.nil
theorem AttrS.at_ {w : World} {v : Value} {l : List At} (h : AttrS w v l) (i : Nat) (hi : i < l.length) : ∃ b o c, v = .slice (some ⟨b, o, none⟩) l.length c ∧ w.cell? ⟨b, o + i * 2, none⟩ = some (.string (l.getD i at0).1) ∧ w.cell? ⟨b, o + i * 2 + 1, none⟩ = some (.string (l.getD i at0).2) := by
  obtain ⟨b, o, c, hv, _, hc⟩ := RdS.some h (by omega)
  obtain ⟨e1, e2⟩ := encA_get l i hi
  exact ⟨b, o, c, hv, hc _ _ e1, by have := hc _ _ e2; rwa [← Nat.add_assoc] at this⟩
/-- a node but for its kids -/
structure Hd where
  kind : Int
  space : Int
  name : ByteArray
  attrs : List At
  text : ByteArray
  fr : Int
/-- a row of nodes: its first one, that one's kids, the rest -/
inductive NT where
  | nil
  | cons (x : Hd) (kids rest : NT)
def NT.len : NT → Nat
  | .nil => 0
  | .cons _ _ r => r.len + 1
def NT.size : NT → Nat
  | .nil => 0
  | .cons _ k r => k.size + r.size + 1
def NT.dropN : Nat → NT → NT
  | 0, t => t
  | _ + 1, .nil => .nil
  | i + 1, .cons _ _ r => r.dropN i
theorem NT.len_size : ∀ t : NT, t.len ≤ t.size
  | .nil => Nat.le_refl _
  | .cons _ k r => by have := r.len_size; simp only [NT.len, NT.size]; omega
theorem NT.drop_len : ∀ t : NT, t.dropN t.len = .nil
  | .nil => rfl
  | .cons _ k r => r.drop_len
theorem NT.drop_size : ∀ (t : NT) (i : Nat), (t.dropN i).size ≤ t.size
  | t, 0 => Nat.le_refl _
  | .nil, i + 1 => Nat.le_refl _
  | .cons _ k r, i + 1 => by have := r.drop_size i; simp only [NT.dropN, NT.size]; omega
theorem NT.drop_succ : ∀ (t : NT) (i : Nat) (x : Hd) (k r : NT), t.dropN i = .cons x k r → t.dropN (i + 1) = r
  | .nil, 0, x, k, r, h => by cases h
  | .cons _ _ _, 0, x, k, r, h => by cases h; rfl
  | .nil, i + 1, x, k, r, h => by cases h
  | .cons _ _ q, i + 1, x, k, r, h => NT.drop_succ q i x k r h
theorem NT.drop_lt : ∀ (t : NT) (i : Nat), i < t.len → ∃ x k r, t.dropN i = .cons x k r
  | .nil, i, h => by simp [NT.len] at h
  | .cons x k r, 0, h => ⟨x, k, r, rfl⟩
  | .cons x k r, i + 1, h => r.drop_lt i (by simp only [NT.len] at h; omega)
/-- nodes as they lie -/
structure MN where
  kind : Int
  space : Int
  name : ByteArray
  attrs : Value
  text : ByteArray
  fr : Int
  kids : Value
def MN.z : MN := ⟨0, 0, ⟨#[]⟩, .slice none 0 0, ⟨#[]⟩, 0, .slice none 0 0⟩
def MN.cells (m : MN) : List Value := [.int .i64 m.kind, .int .i64 m.space, .string m.name, m.attrs, .string m.text, .int .i64 m.fr, m.kids]
def encN : List MN → List Value
  | [] => []
  | m :: r => .int .i64 m.kind :: .int .i64 m.space :: .string m.name :: m.attrs :: .string m.text :: .int .i64 m.fr :: m.kids :: encN r
theorem encN_len : ∀ l : List MN, (encN l).length = l.length * 7
  | [] => rfl
  | m :: r => by simp [encN, encN_len r]; omega
theorem encN_app : ∀ l r : List MN, encN (l ++ r) = encN l ++ encN r
  | [], r => rfl
  | m :: l, r => by simp [encN, encN_app l r]
theorem encN_get : ∀ (l : List MN) (i : Nat), i < l.length → ∀ j u, (l.getD i MN.z).cells[j]? = some u → (encN l)[i * 7 + j]? = some u
  | [], i, h, j, u, hu => by simp at h
  | m :: l, 0, h, j, u, hu => by
    have hj : j < 7 := (List.getElem?_eq_some_iff.1 hu).1
    simp only [List.getD_cons_zero] at hu
    match j, hj with
    | 0, _ | 1, _ | 2, _ | 3, _ | 4, _ | 5, _ | 6, _ => simpa [encN, MN.cells] using hu
  | m :: l, i + 1, h, j, u, hu => by
    have := encN_get l i (by simpa using h) j u (by simpa using hu)
    rw [show (i + 1) * 7 + j = i * 7 + j + 1 + 1 + 1 + 1 + 1 + 1 + 1 by omega]
    simpa [encN] using this
def HR (w : World) (m : MN) (x : Hd) : Prop := m.kind = x.kind ∧ m.space = x.space ∧ m.name = x.name ∧ AttrS w m.attrs x.attrs ∧ m.text = x.text ∧ m.fr = x.fr
def Rows (w : World) : NT → List MN → Prop
  | .nil, ms => ms = []
  | .cons x k r, ms => ∃ m q, ms = m :: q ∧ HR w m x ∧ (∃ ks, RdS w 52 7 m.kids ks.length (encN ks) ∧ Rows w k ks) ∧ Rows w r q
/-- a slice of nodes -/
def TreeAt (w : World) (v : Value) (t : NT) : Prop := ∃ ms, RdS w 52 7 v ms.length (encN ms) ∧ Rows w t ms
section
variable {w w' : World} {v : Value} {t : NT}
theorem HR.no {m : MN} {x : Hd} (h : HR w m x) (hc : Chg w w' No) : HR w' m x := ⟨h.1, h.2.1, h.2.2.1, h.2.2.2.1.no hc, h.2.2.2.2⟩
theorem Rows.no (hc : Chg w w' No) : ∀ (t : NT) (ms : List MN), Rows w t ms → Rows w' t ms
  | .nil, ms, h => h
  | .cons x k r, ms, h => by
    obtain ⟨m, q, h1, h2, ⟨ks, h3, h4⟩, h5⟩ := h
    exact ⟨m, q, h1, h2.no hc, ⟨ks, h3.no hc, Rows.no hc k ks h4⟩, Rows.no hc r q h5⟩
theorem Rows.len : ∀ (t : NT) (ms : List MN), Rows w t ms → ms.length = t.len
  | .nil, ms, h => by cases h; rfl
  | .cons x k r, ms, h => by
    obtain ⟨m, q, h1, _, _, h5⟩ := h
    subst h1
    simp only [List.length_cons, NT.len, Rows.len r q h5]
theorem Rows.at_ : ∀ (t : NT) (ms : List MN) (i : Nat), Rows w t ms → i < t.len → ∃ x k r, t.dropN i = .cons x k r ∧ HR w (ms.getD i MN.z) x ∧ TreeAt w (ms.getD i MN.z).kids k
  | .nil, ms, i, h, hi => by simp [NT.len] at hi
  | .cons x k r, ms, 0, h, hi => by
    obtain ⟨m, q, rfl, h2, h3, h5⟩ := h
    exact ⟨x, k, r, rfl, h2, h3⟩
  | .cons x k r, ms, i + 1, h, hi => by
    obtain ⟨m, q, rfl, h2, h3, h5⟩ := h
    exact Rows.at_ r q i h5 (by simp only [NT.len] at hi; omega)
theorem TreeAt.no (h : TreeAt w v t) (hc : Chg w w' No) : TreeAt w' v t := by
  obtain ⟨ms, h1, h2⟩ := h
  exact ⟨ms, h1.no hc, Rows.no hc t ms h2⟩
theorem TreeAt.form (h : TreeAt w v t) : ∃ A c, v = .slice A t.len c ∧ t.len ≤ c := by
  obtain ⟨ms, h1, h2⟩ := h
  have := h1.form
  rwa [Rows.len t ms h2] at this
theorem TreeAt.nil : TreeAt w (.slice none 0 0) .nil := ⟨[], RdS.nil, rfl⟩
/-- a node's cells -/
structure NodeC (w : World) (b o : Nat) (x : Hd) (A K : Value) : Prop where
  c0 : w.cell? ⟨b, o, none⟩ = some (.int .i64 x.kind)
  c1 : w.cell? ⟨b, o + 1, none⟩ = some (.int .i64 x.space)
  c2 : w.cell? ⟨b, o + 2, none⟩ = some (.string x.name)
  c3 : w.cell? ⟨b, o + 3, none⟩ = some A
  c4 : w.cell? ⟨b, o + 4, none⟩ = some (.string x.text)
  c5 : w.cell? ⟨b, o + 5, none⟩ = some (.int .i64 x.fr)
  c6 : w.cell? ⟨b, o + 6, none⟩ = some K
theorem TreeAt.at_ (h : TreeAt w v t) (i : Nat) (hi : i < t.len) : ∃ b o c x k r A K, t.dropN i = .cons x k r ∧ v = .slice (some ⟨b, o, none⟩) t.len c ∧ NodeC w b (o + i * 7) x A K ∧ AttrS w A x.attrs ∧ TreeAt w K k := by
  obtain ⟨ms, h1, h2⟩ := h
  have hlen := Rows.len t ms h2
  obtain ⟨b, o, c, hv, _, hc⟩ := h1.some (by omega)
  obtain ⟨x, k, r, e1, ⟨g0, g1, g2, g3, g4, g5⟩, e3⟩ := Rows.at_ t ms i h2 hi
  have hg := encN_get ms i (by omega)
  refine ⟨b, o, c, x, k, r, (ms.getD i MN.z).attrs, (ms.getD i MN.z).kids, e1, by rw [hv, hlen], ?_, g3, e3⟩
  constructor
  · have := hc _ _ (hg 0 _ rfl); rw [← g0]; exact this
  · have := hc _ _ (hg 1 _ rfl); rw [← g1]; rw [Nat.add_assoc]; exact this
  · have := hc _ _ (hg 2 _ rfl); rw [← g2]; rw [Nat.add_assoc]; exact this
  · have := hc _ _ (hg 3 _ rfl); rw [Nat.add_assoc]; exact this
  · have := hc _ _ (hg 4 _ rfl); rw [← g4]; rw [Nat.add_assoc]; exact this
  · have := hc _ _ (hg 5 _ rfl); rw [← g5]; rw [Nat.add_assoc]; exact this
  · have := hc _ _ (hg 6 _ rfl); rw [Nat.add_assoc]; exact this
theorem cell_no {b o : Nat} {u : Value} (hc : Chg w w' No) (h : w.cell? ⟨b, o, none⟩ = some u) : w'.cell? ⟨b, o, none⟩ = some u := by
  have hlt : b < w.heap.size := by
    rcases Nat.lt_or_ge b w.heap.size with h1 | h1
    · exact h1
    · simp [World.cell?, Array.getElem?_eq_none h1] at h
  have := hc.same b hlt id
  simp only [World.cell?, this] at h ⊢
  exact h
theorem NodeC.no {b o : Nat} {x : Hd} {A K : Value} (h : NodeC w b o x A K) (hc : Chg w w' No) : NodeC w' b o x A K :=
  ⟨cell_no hc h.c0, cell_no hc h.c1, cell_no hc h.c2, cell_no hc h.c3, cell_no hc h.c4, cell_no hc h.c5, cell_no hc h.c6⟩
theorem agg7 {b o o' : Nat} {v0 v1 v2 v3 v4 v5 v6 : Value} (h0 : w.cell? ⟨b, o', none⟩ = some v0) (h1 : w.cell? ⟨b, o' + 1, none⟩ = some v1) (h2 : w.cell? ⟨b, o' + 2, none⟩ = some v2) (h3 : w.cell? ⟨b, o' + 3, none⟩ = some v3) (h4 : w.cell? ⟨b, o' + 4, none⟩ = some v4) (h5 : w.cell? ⟨b, o' + 5, none⟩ = some v5) (h6 : w.cell? ⟨b, o' + 6, none⟩ = some v6) (he : o = o') : ∀ j u, [v0, v1, v2, v3, v4, v5, v6][j]? = some u → w.cell? ((⟨b, o, none⟩ : Addr).add j) = some u := by
  subst he; intro j u hj; rw [addr_add]
  match j, hj with
  | 0, hj => simp at hj; subst hj; exact h0
  | 1, hj => simp at hj; subst hj; exact h1
  | 2, hj => simp at hj; subst hj; exact h2
  | 3, hj => simp at hj; subst hj; exact h3
  | 4, hj => simp at hj; subst hj; exact h4
  | 5, hj => simp at hj; subst hj; exact h5
  | 6, hj => simp at hj; subst hj; exact h6
theorem NodeC.agg {b o o' : Nat} {x : Hd} {A K : Value} (h : NodeC w b o' x A K) (he : o = o') : ∀ j u, [Value.int .i64 x.kind, .int .i64 x.space, .string x.name, A, .string x.text, .int .i64 x.fr, K][j]? = some u → w.cell? ((⟨b, o, none⟩ : Addr).add j) = some u := agg7 h.c0 h.c1 h.c2 h.c3 h.c4 h.c5 h.c6 he
end
/-! what is told of a tree -/
def deepT : NT → Nat
  | .nil => 0
  | .cons _ k r => max (1 + deepT k) (deepT r)
theorem deepT_le : ∀ t : NT, deepT t ≤ t.size
  | .nil => Nat.le_refl _
  | .cons _ k r => by have := deepT_le k; have := deepT_le r; simp only [deepT, NT.size]; omega
end Go.Proofs.Yteeibieaapiomaa.D
