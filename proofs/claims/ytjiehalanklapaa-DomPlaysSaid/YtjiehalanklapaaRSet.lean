import Derived.Test.YtjiehalanklapaaRLay
/- The document's Doc: one row, one number, one text written. -/
namespace Go.Proofs.Ytjiehalanklapaa.D
open Go Go.Z Go.Proofs
set_option linter.unusedVariables false
theorem lay_one (v : Value) : ∀ (l : List Value) (i : Nat), i < l.length → Z.lay l i [v] = l.set i v
  | [], i, h => by simp at h
  | a :: r, 0, h => by simp [Z.lay]
  | a :: r, i + 1, h => by
    have := lay_one v r i (by simpa using h)
    simp only [Z.lay, List.length_cons, List.length_nil] at this ⊢
    simp only [List.set_cons_succ, ← this]
    simp
section
variable {w w' : World} {p : Nat} {vn vu vr : Value} {ms : List MN} {ks : List Value} {N : List ND}
theorem own_b {t sz m : Nat} {v : Value} {cs : List Value} (h : Own w t sz v m cs) (hm : 0 < m) : ∃ b c, v = .slice (some ⟨b, 0, none⟩) m c ∧ m ≤ c := by
  rcases h.cases.2 with ⟨_, h0, _⟩ | ⟨b, cap, junk, hv, hc, _⟩
  · omega
  · exact ⟨b, cap, hv, hc⟩
theorem IsR.row (h : IsR w p vn vu vr ms ks N) (i : Nat) (hi : i < N.length) : ∃ bo co cells, vr = .slice (some ⟨bo, 0, none⟩) N.length co ∧ N.length ≤ co ∧ Blk w bo 35 cells ∧ i + 1 ≤ cells.length ∧
    ∀ (v : Value) (l : List Nat), Own w 3 1 v l.length (intC l) → (∀ k, v.ownBlock = some k → vu.ownBlock ≠ some k) → ∀ w', Upd w w' bo 35 (Z.lay cells i [v]) →
      IsR w' p vn vu vr ms (ks.set i v) (N.set i { N.getD i n0 with kids := l }) ∧ Chg w w' (fR p vn vu vr ks) ∧ (∀ k, fR p vn vu vr (ks.set i v) k → fR p vn vu vr ks k ∨ v.ownBlock = some k) ∧ ∀ b cells, Blk w b 45 cells → Blk w' b 45 cells := by
  obtain ⟨bo, co, hv, hco⟩ := own_b h.rws (by omega)
  have hO := h.rws
  rw [hv] at hO
  have hlk := h.lk
  refine ⟨bo, co, ?_⟩
  obtain ⟨c0, hc0⟩ := hO.blk (k := bo) rfl
  have hx := fun (v : Value) (hv1 : v.oneCell' = true) => hO.lay (o := i) (vs := [v]) (by simp; omega) (by simpa using hv1)
  obtain ⟨cells, hB, hfit, _, _⟩ := hx (.int .i64 0) rfl
  refine ⟨cells, hv, hco, hB, by simpa using hfit, fun v l hvl hsep w' hU => ?_⟩
  have hv1 : v.oneCell' = true := by obtain ⟨A, c, hvf, _⟩ := hvl.rd.form; rw [hvf]; rfl
  obtain ⟨cells', hB', _, _, hnew⟩ := hx v hv1
  obtain rfl := (hB.inj hB').2
  have hO' := hnew w' hU
  rw [lay_one v ks i (by omega)] at hO'
  have hC := hU.chg
  have hvr : vr.ownBlock = some bo := by rw [hv]; rfl
  have hR : OneT w 35 (fun k => k = bo) := fun k hk => ⟨_, hk ▸ hB⟩
  refine ⟨⟨h.blk.typ hC hR (by decide), ?_, ?_, ?_, by simp [h.lm], by simp [h.lk], fun j hj => ?_, fun j hj => ?_⟩, hC.mono (fun k _ hk => .inr (.inr (.inr (.inl (by rw [hvr, hk]))))), ?_, fun b cells hb => hb.typ hC hR (by decide)⟩
  · rw [List.length_set]; exact h.own.typ hC hR (by decide)
  · rw [List.length_set]
    have e : upC (N.set i { N.getD i n0 with kids := l }) = upC N := by
      apply List.ext_getElem?
      intro j
      simp only [upC, List.getElem?_map, List.getElem?_set]
      by_cases hij : i = j
      · subst hij
        simp [hi, List.getD_eq_getElem?_getD]
      · rw [if_neg hij]
    rw [e]; exact h.ups.typ hC hR (by decide)
  · rw [List.length_set, hv]; exact hO'
  · rw [List.length_set] at hj
    rw [getD_set _ _ _ _ _ hi]
    have hy : RN w' (ms.getD j MN.z) (N.getD j n0) := ⟨(h.at_ j hj).1.chg' hC (fun b cells hb hk => by obtain ⟨cs, hb2⟩ := hR b hk; exact absurd (hb.inj hb2).1 (by decide)), (h.at_ j hj).2⟩
    by_cases hji : j = i
    · rw [if_pos hji]; subst hji; exact hy
    · rw [if_neg hji]; exact hy
  · rw [List.length_set] at hj
    rw [getD_set _ _ _ _ _ hi, getD_set _ _ _ _ _ (by omega)]
    by_cases hji : j = i
    · rw [if_pos hji, if_pos hji]
      exact ⟨hvl.typ hC hR (by decide), hsep⟩
    · rw [if_neg hji, if_neg hji]
      exact ⟨(h.kid j hj).1.typ hC hR (by decide), (h.kid j hj).2⟩
  · rintro k (hk | hk | hk | hk | ⟨j, hj, hk⟩)
    · exact .inl (.inl hk)
    · exact .inl (.inr (.inl hk))
    · exact .inl (.inr (.inr (.inl hk)))
    · exact .inl (.inr (.inr (.inr (.inl hk))))
    · rw [List.length_set] at hj
      rw [getD_set _ _ _ _ _ (by omega)] at hk
      by_cases hji : j = i
      · rw [if_pos hji] at hk; exact .inr hk
      · rw [if_neg hji] at hk; exact .inl (.inr (.inr (.inr (.inr ⟨j, hj, hk⟩))))
theorem IsR.upset (h : IsR w p vn vu vr ms ks N) (i : Nat) (hi : i < N.length) : ∃ bo co cells, vu = .slice (some ⟨bo, 0, none⟩) N.length co ∧ N.length ≤ co ∧ Blk w bo 3 cells ∧ i + 1 ≤ cells.length ∧
    ∀ (z : Int) (w' : World), Upd w w' bo 3 (Z.lay cells i [.int .i64 z]) →
      IsR w' p vn vu vr ms ks (N.set i { N.getD i n0 with up := z }) ∧ Chg w w' (fR p vn vu vr ks) ∧ ∀ b cells, Blk w b 45 cells → Blk w' b 45 cells := by
  obtain ⟨bo, co, hv, hco⟩ := own_b h.ups (by omega)
  have hO := h.ups
  rw [hv] at hO
  refine ⟨bo, co, ?_⟩
  have hx := fun (z : Int) => hO.lay (o := i) (vs := [.int .i64 z]) (by simp [upC]; omega) (by simp [Value.oneCell'])
  obtain ⟨cells, hB, hfit, _, _⟩ := hx 0
  refine ⟨cells, hv, hco, hB, by simpa using hfit, fun z w' hU => ?_⟩
  obtain ⟨cells', hB', _, _, hnew⟩ := hx z
  obtain rfl := (hB.inj hB').2
  have hO' := hnew w' hU
  rw [lay_one _ (upC N) i (by simp [upC]; omega)] at hO'
  have hC := hU.chg
  have hvu : vu.ownBlock = some bo := by rw [hv]; rfl
  have hR : OneT w 3 (fun k => k = bo) := fun k hk => ⟨_, hk ▸ hB⟩
  refine ⟨⟨h.blk.typ hC hR (by decide), ?_, ?_, ?_, by simp [h.lm], by simp [h.lk], fun j hj => ?_, fun j hj => ?_⟩, hC.mono (fun k _ hk => .inr (.inr (.inl (by rw [hvu, hk])))), fun b cells hb => hb.typ hC hR (by decide)⟩
  · rw [List.length_set]; exact h.own.typ hC hR (by decide)
  · rw [List.length_set, hv]
    have e : upC (N.set i { N.getD i n0 with up := z }) = (upC N).set i (.int .i64 z) := by simp [upC, List.map_set]
    rw [e]; exact hO'
  · rw [List.length_set]; exact h.rws.typ hC hR (by decide)
  · rw [List.length_set] at hj
    rw [getD_set _ _ _ _ _ hi]
    have hy : RN w' (ms.getD j MN.z) (N.getD j n0) := ⟨(h.at_ j hj).1.chg' hC (fun b cells hb hk => by obtain ⟨cs, hb2⟩ := hR b hk; exact absurd (hb.inj hb2).1 (by decide)), (h.at_ j hj).2⟩
    by_cases hji : j = i
    · rw [if_pos hji]; subst hji; exact hy
    · rw [if_neg hji]; exact hy
  · rw [List.length_set] at hj
    rw [getD_set _ _ _ _ _ hi]
    have hy : Own w' 3 1 (ks.getD j nV) (N.getD j n0).kids.length (intC (N.getD j n0).kids) ∧ ∀ k, (ks.getD j nV).ownBlock = some k → vu.ownBlock ≠ some k := ⟨(h.kid j hj).1.chg hC (fun k hk he => (h.kid j hj).2 k hk (by rw [hvu, he])), (h.kid j hj).2⟩
    by_cases hji : j = i
    · rw [if_pos hji]; subst hji; exact hy
    · rw [if_neg hji]; exact hy
theorem encN_text (s : ByteArray) : ∀ (ms : List MN) (i : Nat), i < ms.length → Z.lay (encN ms) (i * 7 + 4) [.string s] = encN (ms.set i { ms.getD i MN.z with text := s })
  | [], i, h => by simp at h
  | a :: r, 0, h => by simp [Z.lay, encN, MN.cells]
  | a :: r, i + 1, h => by
    have ih := encN_text s r i (by simpa using h)
    have e : (i + 1) * 7 + 4 = i * 7 + 4 + 1 + 1 + 1 + 1 + 1 + 1 + 1 := by omega
    simp only [Z.lay, encN, List.set_cons_succ, MN.cells, List.length_cons, List.length_nil, List.getD_cons_succ] at ih ⊢
    rw [← ih, e]
    simp [Nat.add_assoc]
theorem IsR.txset (h : IsR w p vn vu vr ms ks N) (i : Nat) (hi : i < N.length) : ∃ bo co cells, vn = .slice (some ⟨bo, 0, none⟩) N.length co ∧ N.length ≤ co ∧ Blk w bo 48 cells ∧ i * 7 + 5 ≤ cells.length ∧
    ∀ (s : List UInt8) (w' : World), Upd w w' bo 48 (Z.lay cells (i * 7 + 4) [.string (bs s)]) →
      ∃ ms', IsR w' p vn vu vr ms' ks (N.set i { N.getD i n0 with text := s }) ∧ Chg w w' (fR p vn vu vr ks) ∧ ∀ b cells, Blk w b 45 cells → Blk w' b 45 cells := by
  obtain ⟨bo, co, hv, hco⟩ := own_b h.own (by omega)
  have hO := h.own
  rw [hv] at hO
  have hlm := h.lm
  have hel := encN_len ms
  refine ⟨bo, co, ?_⟩
  have hx := fun (s : List UInt8) => hO.lay (o := i * 7 + 4) (vs := [.string (bs s)]) (by rw [hel]; simp; omega) (by simp [Value.oneCell'])
  obtain ⟨cells, hB, hfit, _, _⟩ := hx []
  refine ⟨cells, hv, hco, hB, by simpa using hfit, fun s w' hU => ?_⟩
  obtain ⟨cells', hB', _, _, hnew⟩ := hx s
  obtain rfl := (hB.inj hB').2
  have hO' := hnew w' hU
  rw [encN_text (bs s) ms i (by omega)] at hO'
  have hC := hU.chg
  have hvn : vn.ownBlock = some bo := by rw [hv]; rfl
  have hR : OneT w 48 (fun k => k = bo) := fun k hk => ⟨_, hk ▸ hB⟩
  refine ⟨ms.set i { ms.getD i MN.z with text := bs s }, ⟨h.blk.typ hC hR (by decide), ?_, ?_, ?_, by simp [h.lm], by simp [h.lk], fun j hj => ?_, fun j hj => ?_⟩, hC.mono (fun k _ hk => .inr (.inl (by rw [hvn, hk]))), fun b cells hb => hb.typ hC hR (by decide)⟩
  · rw [List.length_set, hv]; exact hO'
  · rw [List.length_set]
    have e : upC (N.set i { N.getD i n0 with text := s }) = upC N := by
      apply List.ext_getElem?
      intro j
      simp only [upC, List.getElem?_map, List.getElem?_set]
      by_cases hij : i = j
      · subst hij
        simp [hi, List.getD_eq_getElem?_getD]
      · rw [if_neg hij]
    rw [e]; exact h.ups.typ hC hR (by decide)
  · rw [List.length_set]; exact h.rws.typ hC hR (by decide)
  · rw [List.length_set] at hj
    rw [getD_set _ _ _ _ _ hi, getD_set _ _ _ _ _ (by omega)]
    have hy : RN w' (ms.getD j MN.z) (N.getD j n0) := ⟨(h.at_ j hj).1.chg' hC (fun b cells hb hk => by obtain ⟨cs, hb2⟩ := hR b hk; exact absurd (hb.inj hb2).1 (by decide)), (h.at_ j hj).2⟩
    by_cases hji : j = i
    · rw [if_pos hji, if_pos hji]; subst hji
      obtain ⟨⟨g1, g2, g3, g4, g5, g6⟩, g7⟩ := hy
      exact ⟨⟨g1, g2, g3, g4, rfl, g6⟩, g7⟩
    · rw [if_neg hji, if_neg hji]; exact hy
  · rw [List.length_set] at hj
    rw [getD_set _ _ _ _ _ hi]
    have hy : Own w' 3 1 (ks.getD j nV) (N.getD j n0).kids.length (intC (N.getD j n0).kids) ∧ ∀ k, (ks.getD j nV).ownBlock = some k → vu.ownBlock ≠ some k := ⟨(h.kid j hj).1.typ hC hR (by decide), (h.kid j hj).2⟩
    by_cases hji : j = i
    · rw [if_pos hji]; subst hji; exact hy
    · rw [if_neg hji]; exact hy
end
end Go.Proofs.Ytjiehalanklapaa.D
