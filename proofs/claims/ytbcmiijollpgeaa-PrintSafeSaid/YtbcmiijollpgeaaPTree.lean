import Derived.Test.YtbcmiijollpgeaaPWalk
/- Articles as a tree of slices in memory; how an element begins. -/
namespace Go.Proofs.Ytbcmiijollpgeaa.T
open Go Go.Z Go.Proofs
set_option linter.unusedVariables false
/-- a row of which only the cells are known -/
def RdW (w : World) (sz : Nat) (v : Value) (m : Nat) (cs : List Value) : Prop :=
  cs.length = m * sz ∧ (∀ u ∈ cs, u.oneCell' = true) ∧ ∃ A c, v = .slice A m c ∧ m ≤ c ∧ (0 < m → ∃ b o, A = some ⟨b, o, none⟩ ∧ ∀ j u, cs[j]? = some u → w.cell? ⟨b, o + j, none⟩ = some u)
theorem RdW.of {w : World} {t sz m : Nat} {v : Value} {cs : List Value} (h : RdS w t sz v m cs) : RdW w sz v m cs := by
  obtain ⟨h1, h2, A, c, h3, h4, h5⟩ := h
  refine ⟨h1, h2, A, c, h3, h4, fun hm => ?_⟩
  obtain ⟨b, o, cells, h6, h7, h8⟩ := h5 hm
  exact ⟨b, o, h6, fun j u hj => by rw [h7.cell]; exact h8 j u hj⟩
theorem RdW.no {w w' : World} {sz m : Nat} {v : Value} {cs : List Value} (h : RdW w sz v m cs) (hc : Chg w w' No) : RdW w' sz v m cs := by
  obtain ⟨h1, h2, A, c, h3, h4, h5⟩ := h
  refine ⟨h1, h2, A, c, h3, h4, fun hm => ?_⟩
  obtain ⟨b, o, h6, h7⟩ := h5 hm
  exact ⟨b, o, h6, fun j u hj => cell_keep hc (h7 j u hj)⟩
theorem RdW.nil {w : World} {sz : Nat} : RdW w sz (.slice none 0 0) 0 [] := ⟨by simp, by simp, none, 0, rfl, Nat.le_refl _, fun h => absurd h (Nat.lt_irrefl 0)⟩
/-- a row that is read: its cells are known, and, where s is true, its block's type too -/
def Rx (s : Bool) (w : World) (t sz : Nat) (v : Value) (m : Nat) (cs : List Value) : Prop := RdW w sz v m cs ∧ (s = true → RdS w t sz v m cs)
section
variable {s : Bool} {w w' : World} {t sz m : Nat} {v : Value} {cs : List Value}
theorem Rx.of (h : RdS w t sz v m cs) : Rx s w t sz v m cs := ⟨RdW.of h, fun _ => h⟩
theorem Rx.no (h : Rx s w t sz v m cs) (hc : Chg w w' No) : Rx s w' t sz v m cs := ⟨h.1.no hc, fun hs => (h.2 hs).no hc⟩
theorem Rx.weak (h : Rx s w t sz v m cs) : Rx false w t sz v m cs := ⟨h.1, fun h => by cases h⟩
theorem Rx.nil : Rx s w t sz (.slice none 0 0) 0 [] := ⟨RdW.nil, fun _ => RdS.nil⟩
theorem Rx.form (h : Rx s w t sz v m cs) : ∃ A c, v = .slice A m c ∧ m ≤ c := by
  obtain ⟨⟨_, _, A, c, h3, h4, _⟩, _⟩ := h; exact ⟨A, c, h3, h4⟩
theorem Rx.some (h : Rx s w t sz v m cs) (hm : 0 < m) : ∃ b o c, v = .slice (some ⟨b, o, none⟩) m c ∧ m ≤ c ∧ ∀ j u, cs[j]? = Option.some u → w.cell? ⟨b, o + j, none⟩ = Option.some u := by
  obtain ⟨⟨_, _, A, c, h3, h4, h5⟩, _⟩ := h
  obtain ⟨b, o, h6, h7⟩ := h5 hm
  exact ⟨b, o, c, by rw [h3, h6], h4, h7⟩
end
abbrev At := List UInt8 × List UInt8
def at0 : At := ([], [])
def encA : List At → List Value
  | [] => []
  | m :: r => .string (bs m.1) :: .string (bs m.2) :: encA r
theorem encA_len : ∀ l : List At, (encA l).length = l.length * 2
  | [] => rfl
  | m :: r => by simp [encA, encA_len r]; omega
theorem encA_get : ∀ (l : List At) (i : Nat), i < l.length → (encA l)[i * 2]? = some (.string (bs (l.getD i at0).1)) ∧ (encA l)[i * 2 + 1]? = some (.string (bs (l.getD i at0).2))
  | [], i, h => by simp at h
  | m :: l, 0, h => by simp [encA]
  | m :: l, i + 1, h => by
    have := encA_get l i (by simpa using h)
    simpa [encA, show (i + 1) * 2 = i * 2 + 1 + 1 by omega, show i * 2 + 1 + 1 + 1 = (i * 2 + 1) + 1 + 1 by omega] using this
theorem encA_one : ∀ (l : List At), ∀ u ∈ encA l, u.oneCell' = true
  | [], u, h => by simp [encA] at h
  | m :: r, u, h => by
    simp only [encA, List.mem_cons] at h
    rcases h with rfl | rfl | h
    · rfl
    · rfl
    · exact encA_one r u h
theorem encA_app : ∀ l r : List At, encA (l ++ r) = encA l ++ encA r
  | [], r => rfl
  | m :: l, r => by simp [encA, encA_app l r]
/-- a slice of attributes -/
def AttrS (s : Bool) (w : World) (v : Value) (l : List At) : Prop := Rx s w 33 2 v l.length (encA l)
theorem AttrS.form {s : Bool} {w : World} {v : Value} {l : List At} (h : AttrS s w v l) : ∃ A c, v = .slice A l.length c ∧ l.length ≤ c := Rx.form h
theorem AttrS.no {s : Bool} {w w' : World} {v : Value} {l : List At} (h : AttrS s w v l) (hc : Chg w w' No) : AttrS s w' v l := Rx.no h hc
theorem AttrS.nil {s : Bool} (w : World) : AttrS s w (.slice none 0 0) [] := Rx.nil
theorem AttrS.weak {s : Bool} {w : World} {v : Value} {l : List At} (h : AttrS s w v l) : AttrS false w v l := Rx.weak h
theorem AttrS.at_ {s : Bool} {w : World} {v : Value} {l : List At} (h : AttrS s w v l) (i : Nat) (hi : i < l.length) : ∃ b o c, v = .slice (some ⟨b, o, none⟩) l.length c ∧ w.cell? ⟨b, o + i * 2, none⟩ = some (.string (bs (l.getD i at0).1)) ∧ w.cell? ⟨b, o + i * 2 + 1, none⟩ = some (.string (bs (l.getD i at0).2)) := by
  obtain ⟨b, o, c, hv, _, hc⟩ := Rx.some h (by omega)
  obtain ⟨e1, e2⟩ := encA_get l i hi
  exact ⟨b, o, c, hv, hc _ _ e1, by have := hc _ _ e2; rwa [← Nat.add_assoc] at this⟩
/-- an art but for its kids -/
structure Hd where
  name : List UInt8
  attrs : List At
  text : List UInt8
/-- a row of arts: its first one, that one's kids, the rest -/
inductive AT where
  | nil
  | cons (x : Hd) (kids rest : AT)
def AT.len : AT → Nat
  | .nil => 0
  | .cons _ _ r => r.len + 1
def AT.size : AT → Nat
  | .nil => 0
  | .cons _ k r => k.size + r.size + 1
def AT.dropN : Nat → AT → AT
  | 0, t => t
  | _ + 1, .nil => .nil
  | i + 1, .cons _ _ r => r.dropN i
def AT.app : AT → AT → AT
  | .nil, q => q
  | .cons x k r, q => .cons x k (r.app q)
theorem AT.len_size : ∀ t : AT, t.len ≤ t.size
  | .nil => Nat.le_refl _
  | .cons _ k r => by have := r.len_size; simp only [AT.len, AT.size]; omega
theorem AT.drop_len : ∀ t : AT, t.dropN t.len = .nil
  | .nil => rfl
  | .cons _ k r => r.drop_len
theorem AT.drop_size : ∀ (t : AT) (i : Nat), (t.dropN i).size ≤ t.size
  | t, 0 => Nat.le_refl _
  | .nil, i + 1 => Nat.le_refl _
  | .cons _ k r, i + 1 => by have := r.drop_size i; simp only [AT.dropN, AT.size]; omega
theorem AT.drop_succ : ∀ (t : AT) (i : Nat) (x : Hd) (k r : AT), t.dropN i = .cons x k r → t.dropN (i + 1) = r
  | .nil, 0, x, k, r, h => by cases h
  | .cons _ _ _, 0, x, k, r, h => by cases h; rfl
  | .nil, i + 1, x, k, r, h => by cases h
  | .cons _ _ q, i + 1, x, k, r, h => AT.drop_succ q i x k r h
theorem AT.app_len : ∀ t q : AT, (t.app q).len = t.len + q.len
  | .nil, q => by simp [AT.app, AT.len]
  | .cons _ _ r, q => by have := AT.app_len r q; simp only [AT.app, AT.len, this]; omega
theorem AT.app_size : ∀ t q : AT, (t.app q).size = t.size + q.size
  | .nil, q => by simp [AT.app, AT.size]
  | .cons _ _ r, q => by have := AT.app_size r q; simp only [AT.app, AT.size, this]; omega
theorem AT.app_nil : ∀ t : AT, t.app .nil = t
  | .nil => rfl
  | .cons x k r => by simp only [AT.app, AT.app_nil r]
/-- arts as they lie -/
structure MA where
  name : List UInt8
  attrs : Value
  text : List UInt8
  fr : Value
  kids : Value
def MA.z : MA := ⟨[], .slice none 0 0, [], .slice none 0 0, .slice none 0 0⟩
def MA.cells (m : MA) : List Value := [.string (bs m.name), m.attrs, .string (bs m.text), m.fr, m.kids]
def encM : List MA → List Value
  | [] => []
  | m :: r => .string (bs m.name) :: m.attrs :: .string (bs m.text) :: m.fr :: m.kids :: encM r
theorem encM_len : ∀ l : List MA, (encM l).length = l.length * 5
  | [] => rfl
  | m :: r => by simp [encM, encM_len r]; omega
theorem encM_app : ∀ l r : List MA, encM (l ++ r) = encM l ++ encM r
  | [], r => rfl
  | m :: l, r => by simp [encM, encM_app l r]
theorem encM_get : ∀ (l : List MA) (i : Nat), i < l.length → ∀ j u, (l.getD i MA.z).cells[j]? = some u → (encM l)[i * 5 + j]? = some u
  | [], i, h, j, u, hu => by simp at h
  | m :: l, 0, h, j, u, hu => by
    have hj : j < 5 := (List.getElem?_eq_some_iff.1 hu).1
    simp only [List.getD_cons_zero] at hu
    match j, hj with
    | 0, _ | 1, _ | 2, _ | 3, _ | 4, _ => simpa [encM, MA.cells] using hu
  | m :: l, i + 1, h, j, u, hu => by
    have := encM_get l i (by simpa using h) j u (by simpa using hu)
    rw [show (i + 1) * 5 + j = i * 5 + j + 1 + 1 + 1 + 1 + 1 by omega]
    simpa [encM] using this
def isSl (v : Value) : Prop := ∃ A m c, v = .slice A m c
def HR (s : Bool) (w : World) (m : MA) (x : Hd) : Prop := m.name = x.name ∧ AttrS s w m.attrs x.attrs ∧ m.text = x.text ∧ isSl m.fr
def Rows (s : Bool) (w : World) : AT → List MA → Prop
  | .nil, ms => ms = []
  | .cons x k r, ms => ∃ m q, ms = m :: q ∧ HR s w m x ∧ (∃ ks, Rx s w 38 5 m.kids ks.length (encM ks) ∧ Rows s w k ks) ∧ Rows s w r q
/-- a slice of arts -/
def TreeAt (s : Bool) (w : World) (v : Value) (t : AT) : Prop := ∃ ms, Rx s w 38 5 v ms.length (encM ms) ∧ Rows s w t ms
section
variable {s : Bool} {w w' : World} {v : Value} {t : AT}
theorem HR.no {m : MA} {x : Hd} (h : HR s w m x) (hc : Chg w w' No) : HR s w' m x := ⟨h.1, h.2.1.no hc, h.2.2⟩
theorem Rows.no (hc : Chg w w' No) : ∀ (t : AT) (ms : List MA), Rows s w t ms → Rows s w' t ms
  | .nil, ms, h => h
  | .cons x k r, ms, h => by
    obtain ⟨m, q, h1, h2, ⟨ks, h3, h4⟩, h5⟩ := h
    exact ⟨m, q, h1, h2.no hc, ⟨ks, h3.no hc, Rows.no hc k ks h4⟩, Rows.no hc r q h5⟩
theorem Rows.weak : ∀ (t : AT) (ms : List MA), Rows s w t ms → Rows false w t ms
  | .nil, ms, h => h
  | .cons x k r, ms, h => by
    obtain ⟨m, q, h1, h2, ⟨ks, h3, h4⟩, h5⟩ := h
    exact ⟨m, q, h1, ⟨h2.1, h2.2.1.weak, h2.2.2⟩, ⟨ks, h3.weak, Rows.weak k ks h4⟩, Rows.weak r q h5⟩
theorem Rows.len : ∀ (t : AT) (ms : List MA), Rows s w t ms → ms.length = t.len
  | .nil, ms, h => by cases h; rfl
  | .cons x k r, ms, h => by
    obtain ⟨m, q, h1, _, _, h5⟩ := h
    subst h1
    simp only [List.length_cons, AT.len, Rows.len r q h5]
theorem Rows.app : ∀ (t q : AT) (ms ns : List MA), Rows s w t ms → Rows s w q ns → Rows s w (t.app q) (ms ++ ns)
  | .nil, q, ms, ns, h, h' => by cases h; exact h'
  | .cons x k r, q, ms, ns, h, h' => by
    obtain ⟨m, p, h1, h2, h3, h5⟩ := h
    subst h1
    exact ⟨m, p ++ ns, rfl, h2, h3, Rows.app r q p ns h5 h'⟩
theorem Rows.at_ : ∀ (t : AT) (ms : List MA) (i : Nat), Rows s w t ms → i < t.len → ∃ x k r, t.dropN i = .cons x k r ∧ HR s w (ms.getD i MA.z) x ∧ TreeAt s w (ms.getD i MA.z).kids k
  | .nil, ms, i, h, hi => by simp [AT.len] at hi
  | .cons x k r, ms, 0, h, hi => by
    obtain ⟨m, q, rfl, h2, h3, h5⟩ := h
    exact ⟨x, k, r, rfl, h2, h3⟩
  | .cons x k r, ms, i + 1, h, hi => by
    obtain ⟨m, q, rfl, h2, h3, h5⟩ := h
    exact Rows.at_ r q i h5 (by simp only [AT.len] at hi; omega)
theorem TreeAt.no (h : TreeAt s w v t) (hc : Chg w w' No) : TreeAt s w' v t := by
  obtain ⟨ms, h1, h2⟩ := h
  exact ⟨ms, h1.no hc, Rows.no hc t ms h2⟩
theorem TreeAt.weak (h : TreeAt s w v t) : TreeAt false w v t := by
  obtain ⟨ms, h1, h2⟩ := h
  exact ⟨ms, h1.weak, Rows.weak t ms h2⟩
theorem TreeAt.form (h : TreeAt s w v t) : ∃ A c, v = .slice A t.len c ∧ t.len ≤ c := by
  obtain ⟨ms, h1, h2⟩ := h
  have := h1.form
  rwa [Rows.len t ms h2] at this
theorem TreeAt.nil : TreeAt s w (.slice none 0 0) .nil := ⟨[], Rx.nil, rfl⟩
/-- an art's cells -/
structure ArtC (w : World) (b o : Nat) (x : Hd) (A F K : Value) : Prop where
  c0 : w.cell? ⟨b, o, none⟩ = some (.string (bs x.name))
  c1 : w.cell? ⟨b, o + 1, none⟩ = some A
  c2 : w.cell? ⟨b, o + 2, none⟩ = some (.string (bs x.text))
  c3 : w.cell? ⟨b, o + 3, none⟩ = some F
  c4 : w.cell? ⟨b, o + 4, none⟩ = some K
theorem TreeAt.at_ (h : TreeAt s w v t) (i : Nat) (hi : i < t.len) : ∃ b o c x k r A F K, t.dropN i = .cons x k r ∧ v = .slice (some ⟨b, o, none⟩) t.len c ∧ ArtC w b (o + i * 5) x A F K ∧ AttrS s w A x.attrs ∧ isSl F ∧ TreeAt s w K k := by
  obtain ⟨ms, h1, h2⟩ := h
  have hlen := Rows.len t ms h2
  obtain ⟨b, o, c, hv, _, hc⟩ := h1.some (by omega)
  obtain ⟨x, k, r, e1, ⟨g0, g1, g2, g3⟩, e3⟩ := Rows.at_ t ms i h2 hi
  have hg := encM_get ms i (by omega)
  refine ⟨b, o, c, x, k, r, (ms.getD i MA.z).attrs, (ms.getD i MA.z).fr, (ms.getD i MA.z).kids, e1, by rw [hv, hlen], ?_, g1, g3, e3⟩
  constructor
  · have := hc _ _ (hg 0 _ rfl); rw [← g0]; exact this
  · have := hc _ _ (hg 1 _ rfl); rw [Nat.add_assoc]; exact this
  · have := hc _ _ (hg 2 _ rfl); rw [← g2]; rw [Nat.add_assoc]; exact this
  · have := hc _ _ (hg 3 _ rfl); rw [Nat.add_assoc]; exact this
  · have := hc _ _ (hg 4 _ rfl); rw [Nat.add_assoc]; exact this
theorem ArtC.no {b o : Nat} {x : Hd} {A F K : Value} (h : ArtC w b o x A F K) (hc : Chg w w' No) : ArtC w' b o x A F K :=
  ⟨cell_keep hc h.c0, cell_keep hc h.c1, cell_keep hc h.c2, cell_keep hc h.c3, cell_keep hc h.c4⟩
theorem agg5 {b o o' : Nat} {v0 v1 v2 v3 v4 : Value} (h0 : w.cell? ⟨b, o', none⟩ = some v0) (h1 : w.cell? ⟨b, o' + 1, none⟩ = some v1) (h2 : w.cell? ⟨b, o' + 2, none⟩ = some v2) (h3 : w.cell? ⟨b, o' + 3, none⟩ = some v3) (h4 : w.cell? ⟨b, o' + 4, none⟩ = some v4) (he : o = o') : ∀ j u, [v0, v1, v2, v3, v4][j]? = some u → w.cell? ((⟨b, o, none⟩ : Addr).add j) = some u := by
  subst he; intro j u hj; rw [addr_add]
  match j, hj with
  | 0, hj => simp at hj; subst hj; exact h0
  | 1, hj => simp at hj; subst hj; exact h1
  | 2, hj => simp at hj; subst hj; exact h2
  | 3, hj => simp at hj; subst hj; exact h3
  | 4, hj => simp at hj; subst hj; exact h4
theorem ArtC.agg {b o o' : Nat} {x : Hd} {A F K : Value} (h : ArtC w b o' x A F K) (he : o = o') : ∀ j u, [Value.string (bs x.name), A, .string (bs x.text), F, K][j]? = some u → w.cell? ((⟨b, o, none⟩ : Addr).add j) = some u := agg5 h.c0 h.c1 h.c2 h.c3 h.c4 he
end
/-! the text of articles -/
def attrP (a : At) : List UInt8 := [32] ++ a.1 ++ [61, 34] ++ safeN true a.2 ++ [34]
def attrsS : List At → List UInt8
  | [] => []
  | a :: r => attrP a ++ attrsS r
def openS (n : List UInt8) (l : List At) : List UInt8 := [60] ++ n ++ attrsS l ++ [62]
def feedsS (s : List UInt8) : Bool := decide (s.head? = some 10)
def AT.feeds : AT → Bool
  | .nil => false
  | .cons x _ _ => decide (x.name = []) && feedsS x.text
def nBr : List UInt8 := [98, 114]
def nHr : List UInt8 := [104, 114]
def nImg : List UInt8 := [105, 109, 103]
def nPre : List UInt8 := [112, 114, 101]
def AT.text : AT → List UInt8
  | .nil => []
  | .cons x k r => (if x.name = [] then safeN false x.text else openS x.name x.attrs ++ (if x.name = nBr ∨ x.name = nHr ∨ x.name = nImg then [] else
      (if x.name = nPre ∧ k.feeds = true then [10] else []) ++ k.text ++ [60, 47] ++ x.name ++ [62])) ++ r.text
theorem AT.app_text : ∀ t q : AT, (t.app q).text = t.text ++ q.text
  | .nil, q => rfl
  | .cons x k r, q => by simp only [AT.app, AT.text, AT.app_text r q, List.append_assoc]
/-- how many bytes there are, in all -/
def attrsN : List At → Nat
  | [] => 0
  | a :: r => a.1.length + 6 * a.2.length + 4 + attrsN r
def AT.wt : AT → Nat
  | .nil => 0
  | .cons x k r => 2 * x.name.length + attrsN x.attrs + 6 * x.text.length + 10 + k.wt + r.wt
theorem attrs_len : ∀ l : List At, (attrsS l).length ≤ attrsN l
  | [] => Nat.le_refl _
  | a :: r => by
    have := attrs_len r; have := safe_len true a.2
    simp only [attrsS, attrsN, attrP, List.length_append, List.length_cons, List.length_nil]; omega
theorem text_len : ∀ t : AT, t.text.length ≤ t.wt
  | .nil => Nat.le_refl _
  | .cons x k r => by
    have h1 := text_len k; have h2 := text_len r; have h3 := attrs_len x.attrs; have h4 := safe_len false x.text
    simp only [AT.text, AT.wt, List.length_append]
    split
    · omega
    · simp only [openS, List.length_append, List.length_cons, List.length_nil]
      split
      · simp; omega
      · simp only [List.length_append, List.length_cons, List.length_nil]
        split <;> simp <;> omega
theorem AT.drop_text : ∀ (t : AT) (i : Nat), (t.dropN i).wt ≤ t.wt
  | t, 0 => Nat.le_refl _
  | .nil, i + 1 => Nat.le_refl _
  | .cons _ k r, i + 1 => by have := r.drop_text i; simp only [AT.dropN, AT.wt]; omega
end Go.Proofs.Ytbcmiijollpgeaa.T
