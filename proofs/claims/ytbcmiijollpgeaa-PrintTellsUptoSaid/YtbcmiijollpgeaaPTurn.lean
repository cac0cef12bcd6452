import Derived.Test.YtbcmiijollpgeaaPSmall
/- An article with one thing of it another one: some article. -/
namespace Go.Proofs.Ytbcmiijollpgeaa.T
open Go Go.Z Go.Proofs
set_option linter.unusedVariables false
def AT.setN : Nat → AT → Hd → AT → AT
  | _, .nil, _, _ => .nil
  | 0, .cons _ _ r, x, k => .cons x k r
  | i + 1, .cons y q r, x, k => .cons y q (AT.setN i r x k)
theorem AT.setN_wt : ∀ (i : Nat) (t : AT) (x : Hd) (k : AT) (y : Hd) (q r : AT), t.dropN i = .cons y q r →
    (t.setN i x k).wt + (2 * y.name.length + attrsN y.attrs + 6 * y.text.length + 10 + q.wt) = t.wt + (2 * x.name.length + attrsN x.attrs + 6 * x.text.length + 10 + k.wt)
  | 0, .cons y q r, x, k, y', q', r', h => by
    have h' : AT.cons y q r = .cons y' q' r' := h
    cases h'
    simp only [AT.setN, AT.wt]; omega
  | 0, .nil, x, k, y, q, r, h => by cases h
  | i + 1, .nil, x, k, y, q, r, h => by cases h
  | i + 1, .cons z p s, x, k, y, q, r, h => by
    have := AT.setN_wt i s x k y q r h
    simp only [AT.setN, AT.wt]; omega
theorem Rows.set {s : Bool} {w : World} : ∀ (i : Nat) (t : AT) (ms : List MA) (m : MA) (x : Hd) (k : AT), Rows s w t ms → i < t.len → HR s w m x → TreeAt s w m.kids k → Rows s w (t.setN i x k) (ms.set i m)
  | 0, .cons y q r, ms, m, x, k, h, hi, hm, hk => by
    obtain ⟨m0, p, rfl, h2, h3, h4⟩ := h
    exact ⟨m, p, rfl, hm, hk, h4⟩
  | i + 1, .cons y q r, ms, m, x, k, h, hi, hm, hk => by
    obtain ⟨m0, p, rfl, h2, h3, h4⟩ := h
    exact ⟨m0, p.set i m, rfl, h2, h3, Rows.set i r p m x k h4 (by simp only [AT.len] at hi; omega) hm hk⟩
  | 0, .nil, ms, m, x, k, h, hi, hm, hk => by simp [AT.len] at hi
  | i + 1, .nil, ms, m, x, k, h, hi, hm, hk => by simp [AT.len] at hi
theorem encM_set (m : MA) : ∀ (ms : List MA) (i : Nat), i < ms.length → Z.lay (encM ms) (i * 5) m.cells = encM (ms.set i m)
  | [], i, h => by simp at h
  | a :: r, 0, h => by simp [Z.lay, encM, MA.cells]
  | a :: r, i + 1, h => by
    have ih := encM_set m r i (by simpa using h)
    have e : (i + 1) * 5 = i * 5 + 1 + 1 + 1 + 1 + 1 := by omega
    simp only [Z.lay, encM, List.set_cons_succ, MA.cells, List.length_cons, List.length_nil] at ih ⊢
    rw [← ih, e]
    simp [Nat.add_assoc]
theorem TreeAt.tp {w w' : World} {v : Value} {t : AT} {B bt : Nat} (h : TreeAt true w v t) (hT : Tp w B bt) (hc : Chg w w' (· = bt)) : TreeAt true w' v t := (h.ok.tp hT hc).at'
/-- one art of an own row is written over -/
theorem own_setM {w : World} {b c : Nat} {ms : List MA} (h : Own w 38 5 (.slice (some ⟨b, 0, none⟩) ms.length c) ms.length (encM ms)) (i : Nat) (hi : i < ms.length) (m : MA) (h1 : ∀ u ∈ m.cells, u.oneCell' = true) :
    ∃ cells : List Value, Blk w b 38 cells ∧ i * 5 + 5 ≤ cells.length ∧ ∀ w', Upd w w' b 38 (Z.lay cells (i * 5) m.cells) → Own w' 38 5 (.slice (some ⟨b, 0, none⟩) ms.length c) ms.length (encM (ms.set i m)) := by
  have hl := encM_len ms
  obtain ⟨cells, h2, h3, _, h5⟩ := Own.lay (o := i * 5) (vs := m.cells) h (by rw [hl]; simp only [MA.cells, List.length_cons, List.length_nil]; omega) h1
  refine ⟨cells, h2, by simpa [MA.cells] using h3, fun w' hU => ?_⟩
  have := h5 w' hU
  rwa [encM_set m ms i hi] at this
/-- its block, and where it begins -/
theorem own_zero {w : World} {b o c : Nat} {ms : List MA} (h : Own w 38 5 (.slice (some ⟨b, o, none⟩) ms.length c) ms.length (encM ms)) : o = 0 := by
  rcases h.cases.2 with ⟨hv, _⟩ | ⟨b', cap, junk, hv, _⟩
  · cases hv
  · cases hv; rfl
theorem RowsOk.set {w : World} {o : Nat → Prop} : ∀ (i : Nat) (t : AT) (ms : List MA) (m : MA) (x : Hd) (k : AT), RowsOk w o t ms → i < t.len → HO w m x → TreeOk w o m.kids k → RowsOk w o (t.setN i x k) (ms.set i m)
  | 0, .cons y q r, ms, m, x, k, h, hi, hm, hk => by
    obtain ⟨m0, p, rfl, h2, h3, h4⟩ := h
    exact ⟨m, p, rfl, hm, hk, h4⟩
  | i + 1, .cons y q r, ms, m, x, k, h, hi, hm, hk => by
    obtain ⟨m0, p, rfl, h2, h3, h4⟩ := h
    exact ⟨m0, p.set i m, rfl, h2, h3, RowsOk.set i r p m x k h4 (by simp only [AT.len] at hi; omega) hm hk⟩
  | 0, .nil, ms, m, x, k, h, hi, hm, hk => by simp [AT.len] at hi
  | i + 1, .nil, ms, m, x, k, h, hi, hm, hk => by simp [AT.len] at hi
theorem RowsOk.at_ {w : World} {o : Nat → Prop} : ∀ (t : AT) (ms : List MA) (i : Nat), RowsOk w o t ms → i < t.len → ∃ x k r, t.dropN i = .cons x k r ∧ HO w (ms.getD i MA.z) x ∧ TreeOk w o (ms.getD i MA.z).kids k
  | .nil, ms, i, h, hi => by simp [AT.len] at hi
  | .cons x k r, ms, 0, h, hi => by
    obtain ⟨m, q, rfl, h2, h3, h5⟩ := h
    exact ⟨x, k, r, rfl, h2, h3⟩
  | .cons x k r, ms, i + 1, h, hi => by
    obtain ⟨m, q, rfl, h2, h3, h5⟩ := h
    exact RowsOk.at_ r q i h5 (by simp only [AT.len] at hi; omega)
/-- one art of a row, its kids' blocks known -/
theorem rowOk_at {w : World} {o : Nat → Prop} {v : Value} {t : AT} {ms : List MA} (h1 : RdS w 38 5 v ms.length (encM ms)) (h2 : RowsOk w o t ms) (i : Nat) (hi : i < t.len) : ∃ b o' c x k r A F K, t.dropN i = .cons x k r ∧ v = .slice (some ⟨b, o', none⟩) t.len c ∧ ArtC w b (o' + i * 5) x A F K ∧ AtS w A x.attrs ∧ isSl F ∧ TreeOk w o K k := by
  have hlen := Rows.len t ms (RowsOk.rows t ms h2)
  obtain ⟨b, o', c, hv, _, hc⟩ := RdS.some h1 (by omega)
  obtain ⟨x, k, r, e1, ⟨g0, g1, g2, g3⟩, e3⟩ := RowsOk.at_ t ms i h2 hi
  have hg := encM_get ms i (by omega)
  refine ⟨b, o', c, x, k, r, (ms.getD i MA.z).attrs, (ms.getD i MA.z).fr, (ms.getD i MA.z).kids, e1, by rw [hv, hlen], ?_, g1, g3, e3⟩
  constructor
  · have := hc _ _ (hg 0 _ rfl); rw [← g0]; exact this
  · have := hc _ _ (hg 1 _ rfl); rw [Nat.add_assoc]; exact this
  · have := hc _ _ (hg 2 _ rfl); rw [← g2]; rw [Nat.add_assoc]; exact this
  · have := hc _ _ (hg 3 _ rfl); rw [Nat.add_assoc]; exact this
  · have := hc _ _ (hg 4 _ rfl); rw [Nat.add_assoc]; exact this
end Go.Proofs.Ytbcmiijollpgeaa.T
