import Derived.Test.YteeibieaapiomaaScE
/- RSet -/
/- The document's Doc: one row, one number, one text written. -/
namespace Go.Proofs.Yteeibieaapiomaa.D
open Go Go.Z Go.Proofs
set_option linter.unusedVariables false
theorem lay_one (v : Value) : ∀ (l : List Value) (i : Nat), i < l.length → Z.lay l i [v] = l.set i v
  | [], i, h => by simp at h
  | a :: r, 0, h => by simp [Z.lay]
  | a :: r, i + 1, h => by
    have := lay_one v r i (by simpa using h)
    simp only [Z.lay, List.length_cons, List.length_nil] at this ⊢
    simp only [List.set_cons_succ, ← this]
    simp
section
variable {w w' : World} {p : Nat} {vn vu vr : Value} {ms : List MN} {ks : List Value} {N : List ND}
theorem own_b {t sz m : Nat} {v : Value} {cs : List Value} (h : Own w t sz v m cs) (hm : 0 < m) : ∃ b c, v = .slice (some ⟨b, 0, none⟩) m c ∧ m ≤ c := by
  rcases h.cases.2 with ⟨_, h0, _⟩ | ⟨b, cap, junk, hv, hc, _⟩
  · omega
  · exact ⟨b, cap, hv, hc⟩
theorem IsR.row (h : IsR w p vn vu vr ms ks N) (i : Nat) (hi : i < N.length) : ∃ bo co cells, vr = .slice (some ⟨bo, 0, none⟩) N.length co ∧ N.length ≤ co ∧ Blk w bo 22 cells ∧ i + 1 ≤ cells.length ∧
    ∀ (v : Value) (l : List Nat), Own w 3 1 v l.length (intC l) → (∀ k, v.ownBlock = some k → vu.ownBlock ≠ some k) → ∀ w', Upd w w' bo 22 (Z.lay cells i [v]) →
      IsR w' p vn vu vr ms (ks.set i v) (N.set i { N.getD i n0 with kids := l }) ∧ Chg w w' (fR p vn vu vr ks) ∧ (∀ k, fR p vn vu vr (ks.set i v) k → fR p vn vu vr ks k ∨ v.ownBlock = some k) ∧ ∀ b cells, Blk w b 89 cells → Blk w' b 89 cells := by
  obtain ⟨bo, co, hv, hco⟩ := own_b h.rws (by omega)
  have hO := h.rws
  rw [hv] at hO
  have hlk := h.lk
  refine ⟨bo, co, ?_⟩
  obtain ⟨c0, hc0⟩ := hO.blk (k := bo) rfl
  have hx := fun (v : Value) (hv1 : v.oneCell' = true) => hO.lay (o := i) (vs := [v]) (by simp; omega) (by simpa using hv1)
  obtain ⟨cells, hB, hfit, _, _⟩ := hx (.int .i64 0) rfl
  refine ⟨cells, hv, hco, hB, by simpa using hfit, fun v l hvl hsep w' hU => ?_⟩
  have hv1 : v.oneCell' = true := by obtain ⟨A, c, hvf, _⟩ := hvl.rd.form; rw [hvf]; rfl
  obtain ⟨cells', hB', _, _, hnew⟩ := hx v hv1
  obtain rfl := (hB.inj hB').2
  have hO' := hnew w' hU
  rw [lay_one v ks i (by omega)] at hO'
  have hC := hU.chg
  have hvr : vr.ownBlock = some bo := by rw [hv]; rfl
  have hR : OneT w 22 (fun k => k = bo) := fun k hk => ⟨_, hk ▸ hB⟩
  refine ⟨⟨h.blk.typ hC hR (by decide), ?_, ?_, ?_, by simp [h.lm], by simp [h.lk], fun j hj => ?_, fun j hj => ?_⟩, hC.mono (fun k _ hk => .inr (.inr (.inr (.inl (by rw [hvr, hk]))))), ?_, fun b cells hb => hb.typ hC hR (by decide)⟩
  · rw [List.length_set]; exact h.own.typ hC hR (by decide)
  · rw [List.length_set]
    have e : upC (N.set i { N.getD i n0 with kids := l }) = upC N := by
      apply List.ext_getElem?
      intro j
      simp only [upC, List.getElem?_map, List.getElem?_set]
      by_cases hij : i = j
      · subst hij
        simp [hi, List.getD_eq_getElem?_getD]
      · rw [if_neg hij]
    rw [e]; exact h.ups.typ hC hR (by decide)
  · rw [List.length_set, hv]; exact hO'
  · rw [List.length_set] at hj
    rw [getD_set _ _ _ _ _ hi]
    have hy : RN w' (ms.getD j MN.z) (N.getD j n0) := ⟨(h.at_ j hj).1.chg' hC (fun b cells hb hk => by obtain ⟨cs, hb2⟩ := hR b hk; exact absurd (hb.inj hb2).1 (by decide)), (h.at_ j hj).2⟩
    by_cases hji : j = i
    · rw [if_pos hji]; subst hji; exact hy
    · rw [if_neg hji]; exact hy
  · rw [List.length_set] at hj
    rw [getD_set _ _ _ _ _ hi, getD_set _ _ _ _ _ (by omega)]
    by_cases hji : j = i
    · rw [if_pos hji, if_pos hji]
      exact ⟨hvl.typ hC hR (by decide), hsep⟩
    · rw [if_neg hji, if_neg hji]
      exact ⟨(h.kid j hj).1.typ hC hR (by decide), (h.kid j hj).2⟩
  · rintro k (hk | hk | hk | hk | ⟨j, hj, hk⟩)
    · exact .inl (.inl hk)
    · exact .inl (.inr (.inl hk))
    · exact .inl (.inr (.inr (.inl hk)))
    · exact .inl (.inr (.inr (.inr (.inl hk))))
    · rw [List.length_set] at hj
      rw [getD_set _ _ _ _ _ (by omega)] at hk
      by_cases hji : j = i
      · rw [if_pos hji] at hk; exact .inr hk
      · rw [if_neg hji] at hk; exact .inl (.inr (.inr (.inr (.inr ⟨j, hj, hk⟩))))
theorem IsR.upset (h : IsR w p vn vu vr ms ks N) (i : Nat) (hi : i < N.length) : ∃ bo co cells, vu = .slice (some ⟨bo, 0, none⟩) N.length co ∧ N.length ≤ co ∧ Blk w bo 3 cells ∧ i + 1 ≤ cells.length ∧
    ∀ (z : Int) (w' : World), Upd w w' bo 3 (Z.lay cells i [.int .i64 z]) →
      IsR w' p vn vu vr ms ks (N.set i { N.getD i n0 with up := z }) ∧ Chg w w' (fR p vn vu vr ks) ∧ ∀ b cells, Blk w b 89 cells → Blk w' b 89 cells := by
  obtain ⟨bo, co, hv, hco⟩ := own_b h.ups (by omega)
  have hO := h.ups
  rw [hv] at hO
  refine ⟨bo, co, ?_⟩
  have hx := fun (z : Int) => hO.lay (o := i) (vs := [.int .i64 z]) (by simp [upC]; omega) (by simp [Value.oneCell'])
  obtain ⟨cells, hB, hfit, _, _⟩ := hx 0
  refine ⟨cells, hv, hco, hB, by simpa using hfit, fun z w' hU => ?_⟩
  obtain ⟨cells', hB', _, _, hnew⟩ := hx z
  obtain rfl := (hB.inj hB').2
  have hO' := hnew w' hU
  rw [lay_one _ (upC N) i (by simp [upC]; omega)] at hO'
  have hC := hU.chg
  have hvu : vu.ownBlock = some bo := by rw [hv]; rfl
  have hR : OneT w 3 (fun k => k = bo) := fun k hk => ⟨_, hk ▸ hB⟩
  refine ⟨⟨h.blk.typ hC hR (by decide), ?_, ?_, ?_, by simp [h.lm], by simp [h.lk], fun j hj => ?_, fun j hj => ?_⟩, hC.mono (fun k _ hk => .inr (.inr (.inl (by rw [hvu, hk])))), fun b cells hb => hb.typ hC hR (by decide)⟩
  · rw [List.length_set]; exact h.own.typ hC hR (by decide)
  · rw [List.length_set, hv]
    have e : upC (N.set i { N.getD i n0 with up := z }) = (upC N).set i (.int .i64 z) := by simp [upC, List.map_set]
    rw [e]; exact hO'
  · rw [List.length_set]; exact h.rws.typ hC hR (by decide)
  · rw [List.length_set] at hj
    rw [getD_set _ _ _ _ _ hi]
    have hy : RN w' (ms.getD j MN.z) (N.getD j n0) := ⟨(h.at_ j hj).1.chg' hC (fun b cells hb hk => by obtain ⟨cs, hb2⟩ := hR b hk; exact absurd (hb.inj hb2).1 (by decide)), (h.at_ j hj).2⟩
    by_cases hji : j = i
    · rw [if_pos hji]; subst hji; exact hy
    · rw [if_neg hji]; exact hy
  · rw [List.length_set] at hj
    rw [getD_set _ _ _ _ _ hi]
    have hy : Own w' 3 1 (ks.getD j nV) (N.getD j n0).kids.length (intC (N.getD j n0).kids) ∧ ∀ k, (ks.getD j nV).ownBlock = some k → vu.ownBlock ≠ some k := ⟨(h.kid j hj).1.chg hC (fun k hk he => (h.kid j hj).2 k hk (by rw [hvu, he])), (h.kid j hj).2⟩
    by_cases hji : j = i
    · rw [if_pos hji]; subst hji; exact hy
    · rw [if_neg hji]; exact hy
theorem encN_text (s : ByteArray) : ∀ (ms : List MN) (i : Nat), i < ms.length → Z.lay (encN ms) (i * 7 + 4) [.string s] = encN (ms.set i { ms.getD i MN.z with text := s })
  | [], i, h => by simp at h
  | a :: r, 0, h => by simp [Z.lay, encN, MN.cells]
  | a :: r, i + 1, h => by
    have ih := encN_text s r i (by simpa using h)
    have e : (i + 1) * 7 + 4 = i * 7 + 4 + 1 + 1 + 1 + 1 + 1 + 1 + 1 := by omega
    simp only [Z.lay, encN, List.set_cons_succ, MN.cells, List.length_cons, List.length_nil, List.getD_cons_succ] at ih ⊢
    rw [← ih, e]
    simp [Nat.add_assoc]
theorem IsR.txset (h : IsR w p vn vu vr ms ks N) (i : Nat) (hi : i < N.length) : ∃ bo co cells, vn = .slice (some ⟨bo, 0, none⟩) N.length co ∧ N.length ≤ co ∧ Blk w bo 52 cells ∧ i * 7 + 5 ≤ cells.length ∧
    ∀ (s : List UInt8) (w' : World), Upd w w' bo 52 (Z.lay cells (i * 7 + 4) [.string (bs s)]) →
      ∃ ms', IsR w' p vn vu vr ms' ks (N.set i { N.getD i n0 with text := s }) ∧ Chg w w' (fR p vn vu vr ks) ∧ ∀ b cells, Blk w b 89 cells → Blk w' b 89 cells := by
  obtain ⟨bo, co, hv, hco⟩ := own_b h.own (by omega)
  have hO := h.own
  rw [hv] at hO
  have hlm := h.lm
  have hel := encN_len ms
  refine ⟨bo, co, ?_⟩
  have hx := fun (s : List UInt8) => hO.lay (o := i * 7 + 4) (vs := [.string (bs s)]) (by rw [hel]; simp; omega) (by simp [Value.oneCell'])
  obtain ⟨cells, hB, hfit, _, _⟩ := hx []
  refine ⟨cells, hv, hco, hB, by simpa using hfit, fun s w' hU => ?_⟩
  obtain ⟨cells', hB', _, _, hnew⟩ := hx s
  obtain rfl := (hB.inj hB').2
  have hO' := hnew w' hU
  rw [encN_text (bs s) ms i (by omega)] at hO'
  have hC := hU.chg
  have hvn : vn.ownBlock = some bo := by rw [hv]; rfl
  have hR : OneT w 52 (fun k => k = bo) := fun k hk => ⟨_, hk ▸ hB⟩
  refine ⟨ms.set i { ms.getD i MN.z with text := bs s }, ⟨h.blk.typ hC hR (by decide), ?_, ?_, ?_, by simp [h.lm], by simp [h.lk], fun j hj => ?_, fun j hj => ?_⟩, hC.mono (fun k _ hk => .inr (.inl (by rw [hvn, hk]))), fun b cells hb => hb.typ hC hR (by decide)⟩
  · rw [List.length_set, hv]; exact hO'
  · rw [List.length_set]
    have e : upC (N.set i { N.getD i n0 with text := s }) = upC N := by
      apply List.ext_getElem?
      intro j
      simp only [upC, List.getElem?_map, List.getElem?_set]
      by_cases hij : i = j
      · subst hij
        simp [hi, List.getD_eq_getElem?_getD]
      · rw [if_neg hij]
    rw [e]; exact h.ups.typ hC hR (by decide)
  · rw [List.length_set]; exact h.rws.typ hC hR (by decide)
  · rw [List.length_set] at hj
    rw [getD_set _ _ _ _ _ hi, getD_set _ _ _ _ _ (by omega)]
    have hy : RN w' (ms.getD j MN.z) (N.getD j n0) := ⟨(h.at_ j hj).1.chg' hC (fun b cells hb hk => by obtain ⟨cs, hb2⟩ := hR b hk; exact absurd (hb.inj hb2).1 (by decide)), (h.at_ j hj).2⟩
    by_cases hji : j = i
    · rw [if_pos hji, if_pos hji]; subst hji
      obtain ⟨⟨g1, g2, g3, g4, g5, g6⟩, g7⟩ := hy
      exact ⟨⟨g1, g2, g3, g4, rfl, g6⟩, g7⟩
    · rw [if_neg hji, if_neg hji]; exact hy
  · rw [List.length_set] at hj
    rw [getD_set _ _ _ _ _ hi]
    have hy : Own w' 3 1 (ks.getD j nV) (N.getD j n0).kids.length (intC (N.getD j n0).kids) ∧ ∀ k, (ks.getD j nV).ownBlock = some k → vu.ownBlock ≠ some k := ⟨(h.kid j hj).1.typ hC hR (by decide), (h.kid j hj).2⟩
    by_cases hji : j = i
    · rw [if_pos hji]; subst hji; exact hy
    · rw [if_neg hji]; exact hy
end
end Go.Proofs.Yteeibieaapiomaa.D
/- RPut -/
/- The document's Doc: Elem, Note, Put. -/
namespace Go.Proofs.Yteeibieaapiomaa.D
open Go Go.Z Go.Proofs
set_option linter.unusedVariables false
/-- a row of numbers that is made since a heap of size W -/
def FO (W : Nat) (w : World) (v : Value) (m : Nat) (cs : List Value) : Prop := Own w 3 1 v m cs ∧ ∀ k, v.ownBlock = some k → W ≤ k
section
variable {W m m' : Nat} {w w' w0 : World} {v v' : Value} {cs cs' : List Value}
theorem FO.no (h : FO W w v m cs) (hc : Chg w w' No) : FO W w' v m cs := ⟨h.1.no hc, h.2⟩
theorem FO.grow (h : FO W w v m cs) (hW : W ≤ w.heap.size) (hO : Own w' 3 1 v' m' cs') (hr : v'.ownBlock = v.ownBlock ∨ ∃ k, v'.ownBlock = some k ∧ w.heap.size ≤ k) : FO W w' v' m' cs' := ⟨hO, fun k hk => by
  rcases hr with e | ⟨j, e, e2⟩
  · exact h.2 k (e ▸ hk)
  · rw [hk] at e; cases e; omega⟩
theorem FO.ch (h : FO w0.heap.size w v m cs) (h0 : Chg w0 w No) (hc : Chg w w' (fun k => v.ownBlock = some k)) : Chg w0 w' No := h0.trans hc (fun k hk he => by have := h.2 k he; omega)
theorem FO.rd (h : FO W w v m cs) (hc : Chg w w' (fun k => v.ownBlock = some k)) {x : Value} {n : Nat} {xs : List Value} (hr : RdS w 3 1 x n xs) (hne : ∀ k, v.ownBlock = some k → x.ownBlock ≠ some k) : RdS w' 3 1 x n xs := RdS.chgAt hr hc (fun _ b _ hb _ he => hne b he hb)
theorem insK_len (K : List Nat) (a n : Nat) (h : a ≤ K.length) : (insK K a n).length = K.length + 1 := by unfold insK; simp; omega
end
section
variable {w : World} {p : Nat} {vn vu vr va : Value} {ms : List MN} {ks : List Value} {N : List ND}
theorem rElem'_calls (h : IsR w p vn vu vr ms ks N) (hl : N.length ≤ 100000) (sp : Int) (nm : ByteArray) {l : List At} (ha : AttrS w va l) (hal : l.length ≤ 100000) :
    Calls Try.prog 70 [.pointer (some ⟨p, 0, none⟩), .int .i64 sp, .string nm, va].toArray w fun e w' => e = .returned (.int .i64 N.length) ∧ ∃ vn' vu' vr' ms' ks', IsR w' p vn' vu' vr' ms' ks' (N ++ [⟨1, sp, nm, l, [], -1, []⟩]) ∧ WrR w w' p vn vu vr ks vn' vu' vr' ks' := by
  obtain ⟨A0, c0, hv0, _⟩ := ha.form
  subst hv0
  refine calls_zc (n := 17) (f := 70) (fn := Try.f70) Try.func70 rfl rfl (by simp) ?_
  refine zc_seq ?_
  refine zc_region ?_
  refine zl_pureL rfl ?_
  refine zl_nil ?_
  refine zk_seq ?_
  refine zc_seq ?_
  refine zc_region ?_
  iterate 3 (refine zl_pureL rfl ?_)
  refine z_bs0 (by first | exact want_none | exact want_L rfl) (by decide) (fun w1 b1 hN1 => ?_)
  have hE1 : Own w1 89 2 (.slice (some ⟨b1, 0, none⟩) 0 0) 0 [] := Own.empty hN1
  refine zl_pureL rfl ?_
  refine z_appendO (by rfl) (by decide) (by first | exact want_none | exact want_L rfl) (by decide) rfl rfl hE1 (RdS.no ha hN1.chg) (by omega) (by omega) (fun v2 w2 hO2 hX2 hr2 => ?_)
  have hC2 : Chg w w2 No := hN1.chg.trans hX2 (fun k hk he => by simp only [Value.ownBlock, Option.some.injEq] at he; have := hN1.at_; omega)
  rw [List.nil_append, Nat.zero_add] at hO2
  have hA2 : AttrS w2 v2 l := hO2.rd
  obtain ⟨A2, c2, rfl, _⟩ := hA2.form
  refine z_buildE #[.int .i64 1, .int .i64 sp, .string nm, .slice A2 l.length c2, .string ⟨#[]⟩, .int .i64 0, .slice none 0 0] (by first | exact want_none | exact want_L rfl) (by decide) rfl (by kernel_rfl) ?_
  skip
  refine zl_call (by first | exact want_none | exact want_L rfl) rfl (by decide) rfl (rLay_calls (h.no hC2) hl ⟨1, sp, nm, l, [], -1, []⟩ rfl rfl hA2) ?_
  rintro _ w3 ⟨rfl, vn', vu', vr', ms', ks', g1, g2⟩
  refine ⟨_, rfl, ?_⟩
  refine zl_pureL rfl ?_
  refine zl_nil ?_
  refine zk_seq ?_
  refine zc_ret ?_
  exact zk_ret1 (.inr rfl) rfl rfl ⟨rfl, _, _, _, _, _, g1, WrR.pre hC2 g2⟩
set_option maxRecDepth 100000 in
set_option maxHeartbeats 8000000 in
theorem rPut_calls (h : IsR w p vn vu vr ms ks N) (hW : WF N) (hl : N.length ≤ 100000) (n up ahead : Int) :
    Calls Try.prog 95 [.pointer (some ⟨p, 0, none⟩), .int .i64 n, .int .i64 up, .int .i64 ahead].toArray w fun e w' => ∃ q ks' N', e = .returned (.bool q) ∧ IsR w' p vn vu vr ms ks' N' ∧ WrR w w' p vn vu vr ks vn vu vr ks' ∧ PutR N n up ahead q N' := by
  have bad : ¬ PutOk N n up ahead → ∃ q ks' N', (Ending.returned (.bool false)) = .returned (.bool q) ∧ IsR w p vn vu vr ms ks' N' ∧ WrR w w p vn vu vr ks vn vu vr ks' ∧ PutR N n up ahead q N' := fun hn => ⟨false, ks, N, rfl, h, WrR.refl _ _ _ _ _ _, fun hh => absurd hh hn, fun _ => ⟨rfl, rfl⟩⟩
  refine calls_zc (n := 83) (f := 95) (fn := Try.f95) Try.func95 rfl rfl (by simp) ?_
  refine zc_seq ?_
  refine zc_region ?_
  refine zl_pureL rfl ?_
  refine zl_nil ?_
  refine zk_seq ?_
  iterate 2 (refine zc_seq ?_)
  refine zc_region ?_
  iterate 2 (refine zl_pureL rfl ?_)
  refine zl_call (by first | exact want_none | exact want_L rfl) rfl (by decide) rfl (rIs_calls h n) ?_
  rintro _ u ⟨rfl, hu⟩
  obtain rfl := hu.symm
  refine ⟨_, rfl, ?_⟩
  by_cases h1 : isN N n
  rotate_left
  · rw [decide_eq_false h1]
    iterate 4 (refine zl_pureL rfl ?_)
    refine zl_skip rfl ?_
    iterate 4 (refine zl_pureL rfl ?_)
    refine zl_skip rfl ?_
    iterate 4 (refine zl_pureL rfl ?_)
    iterate 2 (refine zl_skip rfl ?_)
    refine zl_pureL rfl ?_
    iterate 3 (refine zl_skip rfl ?_)
    iterate 5 (refine zl_pureL rfl ?_)
    refine zl_skip rfl ?_
    refine zl_pureL rfl ?_
    refine zl_nil ?_
    refine zk_seq ?_
    refine zc_true rfl ?_
    refine zc_seq ?_
    refine zc_region ?_
    refine zl_pureL rfl ?_
    refine zl_nil ?_
    refine zk_seq ?_
    refine zc_ret ?_
    refine zk_ret_then ?_
    exact zk_ret1 (.inr rfl) rfl rfl (bad (fun hh => h1 hh.1))
  rw [decide_eq_true h1]
  iterate 4 (refine zl_pureL rfl ?_)
  refine zl_call (by first | exact want_none | exact want_L rfl) rfl (by decide) rfl (rElem_calls h up) ?_
  rintro _ u ⟨rfl, hu⟩
  obtain rfl := hu.symm
  refine ⟨_, rfl, ?_⟩
  by_cases h2 : isN N up ∧ (ndOf N up).kind = 1
  rotate_left
  · rw [decide_eq_false h2]
    iterate 4 (refine zl_pureL rfl ?_)
    refine zl_skip rfl ?_
    iterate 4 (refine zl_pureL rfl ?_)
    iterate 2 (refine zl_skip rfl ?_)
    refine zl_pureL rfl ?_
    iterate 3 (refine zl_skip rfl ?_)
    iterate 5 (refine zl_pureL rfl ?_)
    refine zl_skip rfl ?_
    refine zl_pureL rfl ?_
    refine zl_nil ?_
    refine zk_seq ?_
    refine zc_true rfl ?_
    refine zc_seq ?_
    refine zc_region ?_
    refine zl_pureL rfl ?_
    refine zl_nil ?_
    refine zk_seq ?_
    refine zc_ret ?_
    refine zk_ret_then ?_
    exact zk_ret1 (.inr rfl) rfl rfl (bad (fun hh => h2 ⟨hh.2.1, hh.2.2.1⟩))
  rw [decide_eq_true h2]
  by_cases h3 : n = 0
  · iterate 4 (refine zl_pureL rfl ?_)
    refine z_cmpB (r := true) (want_L rfl) (by decide) rfl rfl rfl (iff_of_true rfl (by omega)) ?_
    iterate 4 (refine zl_pureL rfl ?_)
    iterate 2 (refine zl_skip rfl ?_)
    refine zl_pureL rfl ?_
    iterate 3 (refine zl_skip rfl ?_)
    iterate 5 (refine zl_pureL rfl ?_)
    refine zl_skip rfl ?_
    refine zl_pureL rfl ?_
    refine zl_nil ?_
    refine zk_seq ?_
    refine zc_true rfl ?_
    refine zc_seq ?_
    refine zc_region ?_
    refine zl_pureL rfl ?_
    refine zl_nil ?_
    refine zk_seq ?_
    refine zc_ret ?_
    refine zk_ret_then ?_
    exact zk_ret1 (.inr rfl) rfl rfl (bad (fun hh => hh.2.2.2.1 h3))
  obtain ⟨i, rfl⟩ := Int.eq_ofNat_of_zero_le h1.1
  have hi : i < N.length := by have := h1.2; omega
  obtain ⟨b, o, c, hv, hp⟩ := h.up i hi
  have hb := h.blk
  rw [hv] at hb
  iterate 4 (refine zl_pureL rfl ?_)
  refine z_cmpB (r := false) (want_L rfl) (by decide) rfl rfl rfl (iff_of_false Bool.false_ne_true (by omega)) ?_
  iterate 4 (refine zl_pureL rfl ?_)
  refine z_fa (want_L rfl) (by decide) rfl ?_
  refine z_loadB (want_L rfl) (by decide) rfl (by assumption) (by rfl) ?_
  refine zl_pureL rfl ?_
  refine z_ia (want_L rfl) (by decide) rfl rfl (by omega) (by omega) ?_
  refine z_load1 (by first | exact want_none | exact want_L rfl) (by decide) rfl (cell_at hp (by omega)) ?_
  by_cases h4 : 0 ≤ (N.getD i n0).up
  · refine z_cmpB (r := true) (want_L rfl) (by decide) rfl rfl rfl (iff_of_true rfl (by omega)) ?_
    iterate 5 (refine zl_pureL rfl ?_)
    refine zl_skip rfl ?_
    refine zl_pureL rfl ?_
    refine zl_nil ?_
    refine zk_seq ?_
    refine zc_true rfl ?_
    refine zc_seq ?_
    refine zc_region ?_
    refine zl_pureL rfl ?_
    refine zl_nil ?_
    refine zk_seq ?_
    refine zc_ret ?_
    refine zk_ret_then ?_
    exact zk_ret1 (.inr rfl) rfl rfl (bad (fun hh => by have : (N.getD i n0).up < 0 := hh.2.2.2.2.1; omega))
  obtain ⟨j, rfl⟩ := Int.eq_ofNat_of_zero_le h2.1.1
  have hj : j < N.length := by have := h2.1.2; omega
  have hkj := hW.kids_len hj
  refine z_cmpB (r := false) (want_L rfl) (by decide) rfl rfl rfl (iff_of_false Bool.false_ne_true (by omega)) ?_
  iterate 5 (refine zl_pureL rfl ?_)
  refine zl_call (by first | exact want_none | exact want_L rfl) rfl (by decide) rfl (rBelow_calls h hW j i hj hi) ?_
  rintro _ u ⟨q1, rfl, hq1, hu⟩
  obtain rfl := hu.symm
  refine ⟨_, rfl, ?_⟩
  cases q1
  rotate_left
  · refine zl_pureL rfl ?_
    refine zl_nil ?_
    refine zk_seq ?_
    refine zc_true rfl ?_
    refine zc_seq ?_
    refine zc_region ?_
    refine zl_pureL rfl ?_
    refine zl_nil ?_
    refine zk_seq ?_
    refine zc_ret ?_
    refine zk_ret_then ?_
    exact zk_ret1 (.inr rfl) rfl rfl (bad (fun hh => hh.2.2.2.2.2.1 (hq1.1 rfl)))
  have hna : ¬ Anc N j i := fun ha => absurd (hq1.2 ha) Bool.false_ne_true
  refine zl_pureL rfl ?_
  refine zl_nil ?_
  refine zk_seq ?_
  refine zc_false rfl ?_
  refine zc_skip ?_
  refine zk_seq ?_
  refine zc_seq ?_
  refine zc_region ?_
  iterate 3 (refine zl_pureL rfl ?_)
  refine zl_call (by first | exact want_none | exact want_L rfl) rfl (by decide) rfl (rPlace_calls h hW j hj ahead (by omega)) ?_
  rintro _ u ⟨rfl, hu⟩
  obtain rfl := hu.symm
  refine ⟨_, rfl, ?_⟩
  cases hpl : placeN (N.getD j n0).kids ahead with
  | none =>
    dsimp only [plI]
    refine zl_pureL rfl ?_
    refine zl_nil ?_
    refine zk_seq ?_
    iterate 2 (refine zc_seq ?_)
    refine zc_region ?_
    refine zl_pureL rfl ?_
    refine z_cmpB (r := true) want_none (by decide) rfl rfl rfl (iff_of_true rfl (by omega)) ?_
    refine zl_nil ?_
    refine zk_seq ?_
    refine zc_true rfl ?_
    refine zc_seq ?_
    refine zc_region ?_
    refine zl_pureL rfl ?_
    refine zl_nil ?_
    refine zk_seq ?_
    refine zc_ret ?_
    refine zk_ret_then ?_
    exact zk_ret1 (.inr rfl) rfl rfl (bad (fun hh => by
      have : (placeN (N.getD j n0).kids ahead).isSome = true := hh.2.2.2.2.2.2
      rw [hpl] at this; cases this))
  | some a =>
    have hok : PutOk N i j ahead := ⟨h1, h2.1, h2.2, h3, by show (N.getD i n0).up < 0; omega, hna, by show (placeN (N.getD j n0).kids ahead).isSome = true; rw [hpl]; rfl⟩
    have hal := placeN_le hpl
    dsimp only [plI]
    obtain ⟨br0, cr0, cells0, hvr0, _⟩ := h.row j hj
    obtain ⟨bu0, cu0, cellsu0, hvu0, _⟩ := h.upset i hi
    obtain ⟨br, or', cr, Ak, ck, hvr, hcr, hks, hck⟩ := h.kd j hj
    have hK := (h.kid j hj).1
    rw [hks] at hK
    rw [hvr] at hvr0
    cases hvr0
    rw [hv] at hvu0
    cases hvu0
    rw [hvr] at hb
    subst hv
    subst hvr
    have hij : i ≠ j := fun he => hna (he ▸ Anc.refl i)
    have hlen : 0 + a + 1 + ((N.getD j n0).kids.length - a) = (N.getD j n0).kids.length + 1 := by omega
    refine zl_pureL rfl ?_
    refine zl_nil ?_
    refine zk_seq ?_
    iterate 2 (refine zc_seq ?_)
    refine zc_region ?_
    refine zl_pureL rfl ?_
    refine z_cmpB (r := false) want_none (by decide) rfl rfl rfl (iff_of_false Bool.false_ne_true (by omega)) ?_
    refine zl_nil ?_
    refine zk_seq ?_
    refine zc_false rfl ?_
    refine zc_skip ?_
    refine zk_seq ?_
    refine zc_seq ?_
    refine zc_draw [30] (fun w' => Chg w w' No ∧ Blk w' p 123 [vn, .slice (some ⟨b, 0, none⟩) N.length c, .slice (some ⟨br0, 0, none⟩) N.length cr0]) (.take 0 (.take 1 (.take 2 (.take 3 (.take 4 (.take 6 (.take 7 (.take 8 (.take 9 (.take 10 (.take 11 (.take 12 (.take 13 (.take 14 (.take 16 (.take 19 (.take 20 (.take 21 (.take 22 (.take 23 (.take 24 (.take 25 (.take 26 (.take 27 (.all2 5 (.all2 15 (.all1 17 (.all1 18 (.all1 28 (.take 29 (.last 30))))) 17 (.all1 15 (.all1 18 (.all1 28 (.take 29 (.last 30)))))) 17 (.all1 5 (.all1 15 (.all1 18 (.all1 28 (.take 29 (.last 30))))))))))))))))))))))))))))))) (by rfl) (by kernel_rfl) (by kernel_rfl) (fun w1 hCw1 _ => ⟨?_, ?_⟩)
    · exact ⟨hCw1, hb.no hCw1⟩
    iterate 2 (refine zs_take rfl (zt_pure rfl ?_))
    refine zs_rdL rfl want_none rfl (by decide) (fun _ hS => r_fa rfl) ?_
    refine zs_rdL rfl want_none rfl (by decide) (fun _ hS => r_loadB rfl hS.2 (by rfl)) ?_
    iterate 3 (refine zs_take rfl (zt_pure rfl ?_))
    refine zs_rdL rfl want_none rfl (by decide) (fun _ hS => r_fa rfl) ?_
    refine zs_rdL rfl want_none rfl (by decide) (fun _ hS => r_loadB rfl hS.2 (by rfl)) ?_
    refine zs_take rfl (zt_pure rfl ?_)
    refine zs_rdL rfl want_none rfl (by decide) (fun _ hS => r_ia rfl rfl (by omega) (by omega)) ?_
    refine zs_rdL rfl (by first | exact want_none | exact want_L rfl) rfl (by decide) (fun _ hS => r_load1 rfl (cell_at (cell_no hS.1 hcr) (by omega))) ?_
    refine zs_take rfl (zt_pure rfl ?_)
    refine zs_rdL rfl (by first | exact want_none | exact want_L rfl) rfl (by decide) (fun _ hS => r_cutTo (k := a) hK.flat rfl rfl (by omega)) ?_
    iterate 3 (refine zs_take rfl (zt_pure rfl ?_))
    refine zs_rdL rfl want_none rfl (by decide) (fun _ hS => r_fa rfl) ?_
    refine zs_rdL rfl want_none rfl (by decide) (fun _ hS => r_loadB rfl hS.2 (by rfl)) ?_
    refine zs_take rfl (zt_pure rfl ?_)
    refine zs_rdL rfl want_none rfl (by decide) (fun _ hS => r_ia rfl rfl (by omega) (by omega)) ?_
    refine zs_rdL rfl (by first | exact want_none | exact want_L rfl) rfl (by decide) (fun _ hS => r_load1 rfl (cell_at (cell_no hS.1 hcr) (by omega))) ?_
    refine zs_take rfl (zt_pure rfl ?_)
    refine zs_rdL rfl (by first | exact want_none | exact want_L rfl) rfl (by decide) (fun _ hS => r_cutFrom (k := a) rfl rfl (by omega) (by omega)) ?_
    skip
    -- BEGIN rput.py
    refine zs_two ?_ ?_
    · refine zo_bs0 rfl (by first | exact want_none | exact want_L rfl) (by decide) (fun w2 ca hMw2 => ?_)
      have hCw2 : Chg w w2 No := hCw1.no hMw2.chg
      refine ⟨⟨hCw2, hb.no hCw2⟩, ?_⟩
      have hF : FO w.heap.size w2 (.slice (some ⟨ca, 0, none⟩) 0 0) 0 [] := ⟨Own.empty hMw2, fun k hk => by simp only [Value.ownBlock, Option.some.injEq] at hk; have := hMw2.at_; have := hCw1.size; omega⟩
      refine zs_two ?_ ?_
      · refine zo_appendO rfl (by rfl) (by decide) (by first | exact want_none | exact want_L rfl) (by decide) rfl rfl hF.1 ((hK.take a hal).rd.no hCw2) (by omega) (by omega) (fun vw3 w3 hOw3 hXw3 hrw3 => ?_)
        have hCw3 : Chg w w3 No := hF.ch hCw2 hXw3
        refine ⟨⟨hCw3, hb.no hCw3⟩, ?_⟩
        have hF := hF.grow hCw2.size hOw3 hrw3
        obtain ⟨Aw3, cw3, hvw3, _⟩ := hF.1.rd.form
        subst hvw3
        refine zs_bs1 rfl (by first | exact want_none | exact want_L rfl) (by decide) rfl (by rfl) (by rfl) (by decide) (by decide) (fun w4 cb hMw4 => ?_)
        have hCw4 : Chg w w4 No := hCw3.no hMw4.chg
        refine ⟨⟨hCw4, hb.no hCw4⟩, ?_⟩
        have hr1 : RdS w4 3 1 (.slice (some ⟨cb, 0, none⟩) 1 1) 1 [.int .i64 i] := RdS.new hMw4 rfl (by simp [Value.oneCell'])
        have hF := hF.no hMw4.chg
        refine zs_appendO rfl (by rfl) (by decide) (by first | exact want_none | exact want_L rfl) (by decide) rfl rfl hF.1 hr1 (by omega) (by omega) (fun vw5 w5 hOw5 hXw5 hrw5 => ?_)
        have hCw5 : Chg w w5 No := hF.ch hCw4 hXw5
        refine ⟨⟨hCw5, hb.no hCw5⟩, ?_⟩
        have hF := hF.grow hCw4.size hOw5 hrw5
        obtain ⟨Aw5, cw5, hvw5, _⟩ := hF.1.rd.form
        subst hvw5
        refine zs_appendO rfl (by rfl) (by decide) (by first | exact want_none | exact want_L rfl) (by decide) rfl rfl hF.1 ((RdS.cut hK.rd (k := a) hal).no hCw5) (by omega) (by omega) (fun vw6 w6 hOw6 hXw6 hrw6 => ?_)
        have hCw6 : Chg w w6 No := hF.ch hCw5 hXw6
        refine ⟨⟨hCw6, hb.no hCw6⟩, ?_⟩
        have hF := hF.grow hCw5.size hOw6 hrw6
        obtain ⟨Aw6, cw6, hvw6, _⟩ := hF.1.rd.form
        subst hvw6
        refine zs_rdL rfl want_none rfl (by decide) (fun _ hS => r_ia rfl rfl (by omega) (by omega)) ?_
        have hO : Own w6 3 1 (.slice Aw6 (0 + a + 1 + ((N.getD j n0).kids.length - a)) cw6) (insK (N.getD j n0).kids a i).length (intC (insK (N.getD j n0).kids a i)) := by
          rw [insK_len _ _ _ hal, intC_ins]
          have e := hF.1
          simp only [List.nil_append, Nat.mul_one, List.append_assoc, List.singleton_append] at e
          rw [hlen] at e ⊢
          exact e
        obtain ⟨bo6, co6, cells6, hv6, _, hB6, hfit6, hst6⟩ := (h.no hCw6).row j hj
        cases hv6
        refine zs_storeL (o := j) rfl (by first | exact want_none | exact want_L rfl) (ev_ptr rfl (by omega)) rfl rfl hB6 hfit6 (by simp [Value.cells, Value.oneCell']) (fun w7 hU7 => ?_)
        obtain ⟨g1, g2, g3, g4⟩ := hst6 _ _ hO (fun k hk he => by have := hF.2 k hk; have := h.ups.lt he; omega) w7 hU7
        obtain ⟨bu, cu, cellsu, hvu, _, hBu, hfitu, hstu⟩ := g1.upset i (by rw [List.length_set]; exact hi)
        rw [List.length_set] at hvu
        have hb7 := g1.blk
        cases hvu
        refine zk_seq ?_
        refine zc_seq ?_
        refine zc_region ?_
        iterate 2 (refine zl_pureL rfl ?_)
        refine z_fa want_none (by decide) rfl ?_
        refine z_loadB want_none (by decide) rfl (by assumption) (by rfl) ?_
        iterate 2 (refine zl_pureL rfl ?_)
        refine z_ia want_none (by decide) rfl rfl (by omega) (by omega) ?_
        refine z_store (o := i) (by first | exact want_none | exact want_L rfl) (ev_ptr rfl (by omega)) rfl rfl hBu hfitu (by simp [Value.cells, Value.oneCell']) (fun w8 hU8 => ?_)
        obtain ⟨k1, k2, k3⟩ := hstu _ w8 hU8
        refine zl_nil ?_
        refine zk_seq ?_
        refine zc_seq ?_
        refine zc_region ?_
        refine zl_pureL rfl ?_
        refine zl_nil ?_
        refine zk_seq ?_
        refine zc_ret ?_
        refine zk_ret1 (.inr rfl) rfl rfl ⟨true, _, _, rfl, k1, ⟨?_, ?_, fun b cells hb' => k3 b cells (g4 b cells (hb'.no hCw6))⟩, fun _ => ⟨rfl, ?_⟩, fun hh => absurd hok hh⟩
        · exact ((hCw6.mono (fun _ _ h => h.elim)).trans g2 (fun _ _ h => h)).trans k2 (fun k hk hf => (g3 k hf).elim id (fun h' => by have := hF.2 k h'; omega))
        · intro k hk
          exact (g3 k hk).imp id (fun h' => hF.2 k h')
        · have e : (placeN (ndOf N (j : Nat)).kids ahead).getD 0 = a := by show (placeN (N.getD j n0).kids ahead).getD 0 = a; rw [hpl]; rfl
          show _ = layN N i j _
          rw [e]
          unfold layN
          rw [getD_set _ _ _ _ _ hj, if_neg hij]
      · refine zo_bs1 rfl (by first | exact want_none | exact want_L rfl) (by decide) rfl (by rfl) (by rfl) (by decide) (by decide) (fun w3 cb hMw3 => ?_)
        have hCw3 : Chg w w3 No := hCw2.no hMw3.chg
        refine ⟨⟨hCw3, hb.no hCw3⟩, ?_⟩
        have hr1 : RdS w3 3 1 (.slice (some ⟨cb, 0, none⟩) 1 1) 1 [.int .i64 i] := RdS.new hMw3 rfl (by simp [Value.oneCell'])
        have hF := hF.no hMw3.chg
        refine zs_appendO rfl (by rfl) (by decide) (by first | exact want_none | exact want_L rfl) (by decide) rfl rfl hF.1 ((hK.take a hal).rd.no hCw3) (by omega) (by omega) (fun vw4 w4 hOw4 hXw4 hrw4 => ?_)
        have hCw4 : Chg w w4 No := hF.ch hCw3 hXw4
        refine ⟨⟨hCw4, hb.no hCw4⟩, ?_⟩
        have hr1 := hF.rd hXw4 hr1 (fun k hk he => by simp only [Value.ownBlock, Option.some.injEq] at hk he; have := hMw3.at_; have := hMw2.at_; have := hMw2.size; omega)
        have hF := hF.grow hCw3.size hOw4 hrw4
        obtain ⟨Aw4, cw4, hvw4, _⟩ := hF.1.rd.form
        subst hvw4
        refine zs_appendO rfl (by rfl) (by decide) (by first | exact want_none | exact want_L rfl) (by decide) rfl rfl hF.1 hr1 (by omega) (by omega) (fun vw5 w5 hOw5 hXw5 hrw5 => ?_)
        have hCw5 : Chg w w5 No := hF.ch hCw4 hXw5
        refine ⟨⟨hCw5, hb.no hCw5⟩, ?_⟩
        have hF := hF.grow hCw4.size hOw5 hrw5
        obtain ⟨Aw5, cw5, hvw5, _⟩ := hF.1.rd.form
        subst hvw5
        refine zs_appendO rfl (by rfl) (by decide) (by first | exact want_none | exact want_L rfl) (by decide) rfl rfl hF.1 ((RdS.cut hK.rd (k := a) hal).no hCw5) (by omega) (by omega) (fun vw6 w6 hOw6 hXw6 hrw6 => ?_)
        have hCw6 : Chg w w6 No := hF.ch hCw5 hXw6
        refine ⟨⟨hCw6, hb.no hCw6⟩, ?_⟩
        have hF := hF.grow hCw5.size hOw6 hrw6
        obtain ⟨Aw6, cw6, hvw6, _⟩ := hF.1.rd.form
        subst hvw6
        refine zs_rdL rfl want_none rfl (by decide) (fun _ hS => r_ia rfl rfl (by omega) (by omega)) ?_
        have hO : Own w6 3 1 (.slice Aw6 (0 + a + 1 + ((N.getD j n0).kids.length - a)) cw6) (insK (N.getD j n0).kids a i).length (intC (insK (N.getD j n0).kids a i)) := by
          rw [insK_len _ _ _ hal, intC_ins]
          have e := hF.1
          simp only [List.nil_append, Nat.mul_one, List.append_assoc, List.singleton_append] at e
          rw [hlen] at e ⊢
          exact e
        obtain ⟨bo6, co6, cells6, hv6, _, hB6, hfit6, hst6⟩ := (h.no hCw6).row j hj
        cases hv6
        refine zs_storeL (o := j) rfl (by first | exact want_none | exact want_L rfl) (ev_ptr rfl (by omega)) rfl rfl hB6 hfit6 (by simp [Value.cells, Value.oneCell']) (fun w7 hU7 => ?_)
        obtain ⟨g1, g2, g3, g4⟩ := hst6 _ _ hO (fun k hk he => by have := hF.2 k hk; have := h.ups.lt he; omega) w7 hU7
        obtain ⟨bu, cu, cellsu, hvu, _, hBu, hfitu, hstu⟩ := g1.upset i (by rw [List.length_set]; exact hi)
        rw [List.length_set] at hvu
        have hb7 := g1.blk
        cases hvu
        refine zk_seq ?_
        refine zc_seq ?_
        refine zc_region ?_
        iterate 2 (refine zl_pureL rfl ?_)
        refine z_fa want_none (by decide) rfl ?_
        refine z_loadB want_none (by decide) rfl (by assumption) (by rfl) ?_
        iterate 2 (refine zl_pureL rfl ?_)
        refine z_ia want_none (by decide) rfl rfl (by omega) (by omega) ?_
        refine z_store (o := i) (by first | exact want_none | exact want_L rfl) (ev_ptr rfl (by omega)) rfl rfl hBu hfitu (by simp [Value.cells, Value.oneCell']) (fun w8 hU8 => ?_)
        obtain ⟨k1, k2, k3⟩ := hstu _ w8 hU8
        refine zl_nil ?_
        refine zk_seq ?_
        refine zc_seq ?_
        refine zc_region ?_
        refine zl_pureL rfl ?_
        refine zl_nil ?_
        refine zk_seq ?_
        refine zc_ret ?_
        refine zk_ret1 (.inr rfl) rfl rfl ⟨true, _, _, rfl, k1, ⟨?_, ?_, fun b cells hb' => k3 b cells (g4 b cells (hb'.no hCw6))⟩, fun _ => ⟨rfl, ?_⟩, fun hh => absurd hok hh⟩
        · exact ((hCw6.mono (fun _ _ h => h.elim)).trans g2 (fun _ _ h => h)).trans k2 (fun k hk hf => (g3 k hf).elim id (fun h' => by have := hF.2 k h'; omega))
        · intro k hk
          exact (g3 k hk).imp id (fun h' => hF.2 k h')
        · have e : (placeN (ndOf N (j : Nat)).kids ahead).getD 0 = a := by show (placeN (N.getD j n0).kids ahead).getD 0 = a; rw [hpl]; rfl
          show _ = layN N i j _
          rw [e]
          unfold layN
          rw [getD_set _ _ _ _ _ hj, if_neg hij]
    · refine zo_bs1 rfl (by first | exact want_none | exact want_L rfl) (by decide) rfl (by rfl) (by rfl) (by decide) (by decide) (fun w2 cb hMw2 => ?_)
      have hCw2 : Chg w w2 No := hCw1.no hMw2.chg
      refine ⟨⟨hCw2, hb.no hCw2⟩, ?_⟩
      have hr1 : RdS w2 3 1 (.slice (some ⟨cb, 0, none⟩) 1 1) 1 [.int .i64 i] := RdS.new hMw2 rfl (by simp [Value.oneCell'])
      refine zs_bs0 rfl (by first | exact want_none | exact want_L rfl) (by decide) (fun w3 ca hMw3 => ?_)
      have hCw3 : Chg w w3 No := hCw2.no hMw3.chg
      refine ⟨⟨hCw3, hb.no hCw3⟩, ?_⟩
      have hF : FO w.heap.size w3 (.slice (some ⟨ca, 0, none⟩) 0 0) 0 [] := ⟨Own.empty hMw3, fun k hk => by simp only [Value.ownBlock, Option.some.injEq] at hk; have := hMw3.at_; have := hCw2.size; omega⟩
      have hr1 := hr1.no hMw3.chg
      refine zs_appendO rfl (by rfl) (by decide) (by first | exact want_none | exact want_L rfl) (by decide) rfl rfl hF.1 ((hK.take a hal).rd.no hCw3) (by omega) (by omega) (fun vw4 w4 hOw4 hXw4 hrw4 => ?_)
      have hCw4 : Chg w w4 No := hF.ch hCw3 hXw4
      refine ⟨⟨hCw4, hb.no hCw4⟩, ?_⟩
      have hr1 := hF.rd hXw4 hr1 (fun k hk he => by simp only [Value.ownBlock, Option.some.injEq] at hk he; have := hMw3.at_; have := hMw2.at_; have := hMw2.size; omega)
      have hF := hF.grow hCw3.size hOw4 hrw4
      obtain ⟨Aw4, cw4, hvw4, _⟩ := hF.1.rd.form
      subst hvw4
      refine zs_appendO rfl (by rfl) (by decide) (by first | exact want_none | exact want_L rfl) (by decide) rfl rfl hF.1 hr1 (by omega) (by omega) (fun vw5 w5 hOw5 hXw5 hrw5 => ?_)
      have hCw5 : Chg w w5 No := hF.ch hCw4 hXw5
      refine ⟨⟨hCw5, hb.no hCw5⟩, ?_⟩
      have hF := hF.grow hCw4.size hOw5 hrw5
      obtain ⟨Aw5, cw5, hvw5, _⟩ := hF.1.rd.form
      subst hvw5
      refine zs_appendO rfl (by rfl) (by decide) (by first | exact want_none | exact want_L rfl) (by decide) rfl rfl hF.1 ((RdS.cut hK.rd (k := a) hal).no hCw5) (by omega) (by omega) (fun vw6 w6 hOw6 hXw6 hrw6 => ?_)
      have hCw6 : Chg w w6 No := hF.ch hCw5 hXw6
      refine ⟨⟨hCw6, hb.no hCw6⟩, ?_⟩
      have hF := hF.grow hCw5.size hOw6 hrw6
      obtain ⟨Aw6, cw6, hvw6, _⟩ := hF.1.rd.form
      subst hvw6
      refine zs_rdL rfl want_none rfl (by decide) (fun _ hS => r_ia rfl rfl (by omega) (by omega)) ?_
      have hO : Own w6 3 1 (.slice Aw6 (0 + a + 1 + ((N.getD j n0).kids.length - a)) cw6) (insK (N.getD j n0).kids a i).length (intC (insK (N.getD j n0).kids a i)) := by
        rw [insK_len _ _ _ hal, intC_ins]
        have e := hF.1
        simp only [List.nil_append, Nat.mul_one, List.append_assoc, List.singleton_append] at e
        rw [hlen] at e ⊢
        exact e
      obtain ⟨bo6, co6, cells6, hv6, _, hB6, hfit6, hst6⟩ := (h.no hCw6).row j hj
      cases hv6
      refine zs_storeL (o := j) rfl (by first | exact want_none | exact want_L rfl) (ev_ptr rfl (by omega)) rfl rfl hB6 hfit6 (by simp [Value.cells, Value.oneCell']) (fun w7 hU7 => ?_)
      obtain ⟨g1, g2, g3, g4⟩ := hst6 _ _ hO (fun k hk he => by have := hF.2 k hk; have := h.ups.lt he; omega) w7 hU7
      obtain ⟨bu, cu, cellsu, hvu, _, hBu, hfitu, hstu⟩ := g1.upset i (by rw [List.length_set]; exact hi)
      rw [List.length_set] at hvu
      have hb7 := g1.blk
      cases hvu
      refine zk_seq ?_
      refine zc_seq ?_
      refine zc_region ?_
      iterate 2 (refine zl_pureL rfl ?_)
      refine z_fa want_none (by decide) rfl ?_
      refine z_loadB want_none (by decide) rfl (by assumption) (by rfl) ?_
      iterate 2 (refine zl_pureL rfl ?_)
      refine z_ia want_none (by decide) rfl rfl (by omega) (by omega) ?_
      refine z_store (o := i) (by first | exact want_none | exact want_L rfl) (ev_ptr rfl (by omega)) rfl rfl hBu hfitu (by simp [Value.cells, Value.oneCell']) (fun w8 hU8 => ?_)
      obtain ⟨k1, k2, k3⟩ := hstu _ w8 hU8
      refine zl_nil ?_
      refine zk_seq ?_
      refine zc_seq ?_
      refine zc_region ?_
      refine zl_pureL rfl ?_
      refine zl_nil ?_
      refine zk_seq ?_
      refine zc_ret ?_
      refine zk_ret1 (.inr rfl) rfl rfl ⟨true, _, _, rfl, k1, ⟨?_, ?_, fun b cells hb' => k3 b cells (g4 b cells (hb'.no hCw6))⟩, fun _ => ⟨rfl, ?_⟩, fun hh => absurd hok hh⟩
      · exact ((hCw6.mono (fun _ _ h => h.elim)).trans g2 (fun _ _ h => h)).trans k2 (fun k hk hf => (g3 k hf).elim id (fun h' => by have := hF.2 k h'; omega))
      · intro k hk
        exact (g3 k hk).imp id (fun h' => hF.2 k h')
      · have e : (placeN (ndOf N (j : Nat)).kids ahead).getD 0 = a := by show (placeN (N.getD j n0).kids ahead).getD 0 = a; rw [hpl]; rfl
        show _ = layN N i j _
        rw [e]
        unfold layN
        rw [getD_set _ _ _ _ _ hj, if_neg hij]
    -- END rput.py
end
end Go.Proofs.Yteeibieaapiomaa.D
/- RTree -/
/- The document's Doc: New, Tree. -/
namespace Go.Proofs.Yteeibieaapiomaa.D
open Go Go.Z Go.Proofs
set_option linter.unusedVariables false
theorem rNew_calls {w : World} : Calls Try.prog 67 [].toArray w fun e w' => ∃ p vn vu vr ms ks, e = .returned (.pointer (some ⟨p, 0, none⟩)) ∧ IsR w' p vn vu vr ms ks rootN ∧ Chg w w' No ∧ ∀ k, fR p vn vu vr ks k → w.heap.size ≤ k := by
  refine calls_zc (n := 7) (f := 67) (fn := Try.f67) Try.func67 rfl rfl (by simp) ?_
  refine zc_seq ?_
  refine zc_region ?_
  refine zl_pureL rfl ?_
  refine zl_nil ?_
  refine zk_seq ?_
  refine zc_seq ?_
  refine zc_region ?_
  refine z_buildE #[.int .i64 1, .int .i64 1, .string ⟨#[]⟩, .slice none 0 0, .string ⟨#[]⟩, .int .i64 0, .slice none 0 0] (by first | exact want_none | exact want_L rfl) (by decide) rfl (by kernel_rfl) ?_
  refine z_bs1 (by first | exact want_none | exact want_L rfl) (by decide) rfl (by rfl) (by rfl) (by decide) (by decide) (fun w1 b1 hN1 => ?_)
  refine z_bs1 (by first | exact want_none | exact want_L rfl) (by decide) rfl (by rfl) (by rfl) (by decide) (by decide) (fun w2 b2 hN2 => ?_)
  refine z_bs1 (by first | exact want_none | exact want_L rfl) (by decide) rfl (by rfl) (by rfl) (by decide) (by decide) (fun w3 b3 hN3 => ?_)
  refine z_buildE #[.slice (some ⟨b1, 0, none⟩) 1 1, .slice (some ⟨b2, 0, none⟩) 1 1, .slice (some ⟨b3, 0, none⟩) 1 1] (by first | exact want_none | exact want_L rfl) (by decide) rfl (by kernel_rfl) ?_
  refine z_box (by first | exact want_none | exact want_L rfl) (by decide) rfl (fun w4 b4 hN4 => ?_)
  refine zl_pureL rfl ?_
  refine zl_nil ?_
  refine zk_seq ?_
  refine zc_ret ?_
  have h1 := hN1.at_
  have h2 := hN2.at_
  have h3 := hN3.at_
  have h4 := hN4.at_
  have hb1 : Blk w1 b1 52 ([.int .i64 1, .int .i64 1, .string ⟨#[]⟩, .slice none 0 0, .string ⟨#[]⟩, .int .i64 0, .slice none 0 0] ++ []) := hN1.blk
  have hb2 : Blk w2 b2 3 ([.int .i64 (-1)] ++ []) := hN2.blk
  have hb3 : Blk w3 b3 22 ([.slice none 0 0] ++ []) := hN3.blk
  have c24 := hN3.chg.no hN4.chg
  have c14 := (hN2.chg).no c24
  have s2 := hN1.chg.size
  have s3 := hN2.chg.size
  have s4 := hN3.chg.size
  refine zk_ret1 (.inr rfl) rfl rfl ⟨b4, _, _, _, [⟨1, 1, ⟨#[]⟩, .slice none 0 0, ⟨#[]⟩, 0, .slice none 0 0⟩], [.slice none 0 0], rfl, ⟨hN4.blk, ?_, ?_, ?_, rfl, rfl, fun i hi => ?_, fun i hi => ?_⟩, (hN1.chg.no c14), ?_⟩
  · exact Own.mk' (junk := []) rfl (Nat.le_refl _) (by decide) (hb1.no c14) rfl (by simp [encN, MN.cells, Value.oneCell'])
  · exact Own.mk' (junk := []) rfl (Nat.le_refl _) (by decide) (hb2.no c24) rfl (by simp [upC, Value.oneCell', rootN])
  · exact Own.mk' (junk := []) rfl (Nat.le_refl _) (by decide) (hb3.no hN4.chg) rfl (by simp [Value.oneCell'])
  · have : i = 0 := by simp [rootN] at hi; omega
    subst this
    exact ⟨⟨rfl, rfl, rfl, AttrS.nil _, rfl, rfl⟩, rfl⟩
  · have : i = 0 := by simp [rootN] at hi; omega
    subst this
    exact ⟨Own.nil, fun k hk => by cases hk⟩
  · rintro k (hk | hk | hk | hk | ⟨i, hi, hk⟩)
    · omega
    · simp only [Value.ownBlock, Option.some.injEq] at hk; omega
    · simp only [Value.ownBlock, Option.some.injEq] at hk; omega
    · simp only [Value.ownBlock, Option.some.injEq] at hk; omega
    · have : i = 0 := by simp at hi; omega
      subst this; cases hk
end Go.Proofs.Yteeibieaapiomaa.D
/- SRefA -/
/- The document's Site in memory; an element comes. -/
namespace Go.Proofs.Yteeibieaapiomaa.D
open Go Go.Z Go.Proofs
set_option linter.unusedVariables false
structure TP where
  pd : Nat
  pm : Nat
  vn : Value
  vu : Value
  vr : Value
  ms : List MN
  ks : List Value
  vrow : Value
structure IsT (w : World) (t : Nat) (r : TP) (N : List ND) (L : List Nat) : Prop where
  blk : Blk w t 108 [.pointer (some ⟨r.pd, 0, none⟩), .pointer (some ⟨r.pm, 0, none⟩), r.vrow, .bool false]
  doc : IsR w r.pd r.vn r.vu r.vr r.ms r.ks N
  row : Own w 3 1 r.vrow L.length (intC L)
  sep : ∀ k, r.vrow.ownBlock = some k → ¬ fR r.pd r.vn r.vu r.vr r.ks k
def footT (t : Nat) (r : TP) (k : Nat) : Prop := k = t ∨ r.vrow.ownBlock = some k ∨ fR r.pd r.vn r.vu r.vr r.ks k
section
variable {w w' w1 w2 : World} {t : Nat} {r r' r1 : TP} {N N' : List ND} {L L' : List Nat} {S : Nat → Prop}
theorem IsR.noT' {p : Nat} {vn vu vr : Value} {ms : List MN} {ks : List Value} (h : IsR w p vn vu vr ms ks N) {b t : Nat} {cs : List Value} (hb : Blk w b t cs) (h1 : t ≠ 123) (h2 : t ≠ 52) (h3 : t ≠ 3) (h4 : t ≠ 22) : ¬ fR p vn vu vr ks b := by
  rintro (hk | hk | hk | hk | ⟨i, hi, hk⟩)
  · exact hb.ne h.blk h1 hk
  · exact h.own.ne hk hb (Ne.symm h2) rfl
  · exact h.ups.ne hk hb (Ne.symm h3) rfl
  · exact h.rws.ne hk hb (Ne.symm h4) rfl
  · exact (h.kid i (by rw [← h.lk]; exact hi)).1.ne hk hb (Ne.symm h3) rfl
theorem IsT.noT (h : IsT w t r N L) {b ty : Nat} {cs : List Value} (hb : Blk w b ty cs) (h1 : ty ≠ 123) (h2 : ty ≠ 52) (h3 : ty ≠ 3) (h4 : ty ≠ 22) (h5 : ty ≠ 108) : ¬ footT t r b := by
  rintro (hk | hk | hk)
  · exact hb.ne h.blk h5 hk
  · exact h.row.ne hk hb (Ne.symm h3) rfl
  · exact h.doc.noT' hb h1 h2 h3 h4 hk
theorem IsT.no (h : IsT w t r N L) (hc : Chg w w' No) : IsT w' t r N L := ⟨h.blk.no hc, h.doc.no hc, h.row.no hc, h.sep⟩
theorem IsT.chg (h : IsT w t r N L) (hc : Chg w w' S) (hS : ∀ k, footT t r k → ¬ S k) (h45 : ∀ b cells, Blk w b 89 cells → ¬ S b) : IsT w' t r N L :=
  ⟨h.blk.chg hc (hS _ (.inl rfl)), h.doc.chg hc (fun k hk => hS k (.inr (.inr hk))) h45, h.row.chg hc (fun k hk => hS k (.inr (.inl hk))), h.sep⟩
theorem IsT.lt (h : IsT w t r N L) : ∀ k, footT t r k → k < w.heap.size := by
  rintro k (rfl | hk | hk)
  · exact h.blk.lt
  · exact h.row.lt hk
  · exact h.doc.lt k hk
structure WrT (w w' : World) (t : Nat) (r r' : TP) : Prop where
  chg : Chg w w' (footT t r)
  ft : ∀ k, footT t r' k → footT t r k ∨ w.heap.size ≤ k
theorem WrT.of_no (hc : Chg w w' No) (t : Nat) (r : TP) : WrT w w' t r r := ⟨hc.mono (fun _ _ h => h.elim), fun _ h => .inl h⟩
theorem WrT.trans (h : WrT w w1 t r r1) (k : WrT w1 w2 t r1 r') : WrT w w2 t r r' := by
  refine ⟨h.chg.trans k.chg (fun i hi hf => ?_), fun i hf => ?_⟩
  · rcases h.ft i hf with h1 | h1
    · exact h1
    · omega
  · rcases k.ft i hf with h1 | h1
    · exact h.ft i h1
    · exact .inr (Nat.le_trans h.chg.size h1)
/-- its Doc has changed -/
theorem IsT.docW (h : IsT w t r N L) {vn' vu' vr' : Value} {ms' : List MN} {ks' : List Value} (hD : IsR w' r.pd vn' vu' vr' ms' ks' N') (hW : WrR w w' r.pd r.vn r.vu r.vr r.ks vn' vu' vr' ks') :
    IsT w' t { r with vn := vn', vu := vu', vr := vr', ms := ms', ks := ks' } N' L ∧ WrT w w' t r { r with vn := vn', vu := vu', vr := vr', ms := ms', ks := ks' } := by
  refine ⟨⟨h.blk.chg hW.chg (h.doc.noT' h.blk (by decide) (by decide) (by decide) (by decide)), hD, h.row.chg hW.chg h.sep, fun k hk hf => ?_⟩, ⟨hW.chg.mono (fun k _ hk => .inr (.inr hk)), ?_⟩⟩
  · rcases hW.ft k hf with h1 | h1
    · exact h.sep k hk h1
    · have := h.row.lt hk; omega
  · rintro k (hk | hk | hk)
    · exact .inl (.inl hk)
    · exact .inl (.inr (.inl hk))
    · exact (hW.ft k hk).imp (fun h => .inr (.inr h)) id
theorem rsTop_calls (h : IsT w t r N L) (hL : 0 < L.length) (hl : L.length ≤ 1000000) : Calls Try.prog 72 [.pointer (some ⟨t, 0, none⟩)].toArray w fun e w' => e = .returned (.int .i64 ((L.getD (L.length - 1) 0 : Nat) : Int)) ∧ Chg w w' No := by
  have hb := h.blk
  obtain ⟨b, o, c, hv, _, hcc⟩ := RdS.some h.row.rd hL
  have hcell := hcc (L.length - 1) _ (intC_get L (L.length - 1) (by omega))
  rw [hv] at hb
  refine calls_zc (n := 15) (f := 72) (fn := Try.f72) Try.func72 rfl rfl (by simp) ?_
  refine zc_seq ?_
  refine zc_region ?_
  refine zl_pureL rfl ?_
  refine zl_nil ?_
  refine zk_seq ?_
  refine zc_seq ?_
  refine zc_draw [] (fun w' => Chg w w' No ∧ Blk w' t 108 [.pointer (some ⟨r.pd, 0, none⟩), .pointer (some ⟨r.pm, 0, none⟩), .slice (some ⟨b, o, none⟩) L.length c, .bool false]) (.take 0 (.take 1 (.take 2 (.take 3 (.take 4 (.take 5 (.take 6 (.take 7 (.take 8 (.take 9 (.take 10 (.take 11 (.take 12 (.fin)))))))))))))) (by rfl) (by kernel_rfl) (by kernel_rfl) (fun w1 hC1 _ => ⟨?_, ?_⟩)
  · exact ⟨hC1, hb.no hC1⟩
  iterate 2 (refine zs_take rfl (zt_pure rfl ?_))
  refine zs_rdL rfl want_none rfl (by decide) (fun _ hS => r_fa rfl) ?_
  refine zs_rdL rfl want_none rfl (by decide) (fun _ hS => r_loadB rfl hS.2 (by rfl)) ?_
  iterate 2 (refine zs_take rfl (zt_pure rfl ?_))
  refine zs_rdL rfl want_none rfl (by decide) (fun _ hS => r_fa rfl) ?_
  refine zs_rdL rfl want_none rfl (by decide) (fun _ hS => r_loadB rfl hS.2 (by rfl)) ?_
  refine zs_rdL rfl want_none rfl (by decide) (fun _ hS => r_len rfl) ?_
  refine zs_rdL rfl want_none rfl (by decide) (fun _ hS => r_sub rfl rfl (by omega) (by omega)) ?_
  refine zs_rdL rfl want_none rfl (by decide) (fun _ hS => r_ia rfl rfl (by omega) (by omega)) ?_
  refine zs_rdL rfl (by first | exact want_none | exact want_L rfl) rfl (by decide) (fun _ hS => r_load1 rfl (cell_at (cell_no hS.1 hcell) (by omega))) ?_
  refine zs_take rfl (zt_pure rfl ?_)
  refine zs_fin ?_
  refine zk_seq ?_
  refine zc_ret ?_
  exact zk_ret1 (.inr rfl) rfl rfl ⟨rfl, hC1⟩
theorem rsPlace_calls (h : IsT w t r N L) (hl : L.length ≤ 1000000) (n : Int) (hn : ∀ k, k < L.length → ((L.getD k 0 : Nat) : Int) ≠ n) : Calls Try.prog 110 [.pointer (some ⟨t, 0, none⟩), .int .i64 n].toArray w fun e w' => e = .returned (.int .i64 (-1)) ∧ w' = w := by
  have hb := h.blk
  obtain ⟨A, c, hv, hc⟩ := h.row.rd.form
  rw [hv] at hb
  refine calls_zc (n := 25) (f := 110) (fn := Try.f110) Try.func110 rfl rfl (by simp) ?_
  refine zc_seq ?_
  refine zc_region ?_
  refine zl_pureL rfl ?_
  refine zl_nil ?_
  refine zk_seq ?_
  iterate 2 (refine zc_seq ?_)
  refine zc_region ?_
  refine zl_pureL rfl ?_
  refine zl_nil ?_
  refine zk_seq ?_
  refine zc_block ?_
  refine zc_loopW (ι := Nat) (fun k u => [(0, .pointer (some ⟨t, 0, none⟩)), (1, .int .i64 n), (5, .int .i64 (k : Nat))]) (fun k u => k ≤ L.length ∧ u = w) (fun k u => L.length - k) 0 ⟨Nat.zero_le _, rfl⟩ ?_ ?_
  · exact ⟨rfl, rfl, rfl, trivial⟩
  rintro k u ⟨hk, rfl⟩
  by_cases hlt : k < L.length
  · obtain ⟨b, o, c', hv', _, hcc⟩ := RdS.some h.row.rd (by omega)
    rw [hv] at hv'
    cases hv'
    have hcell := hcc k _ (intC_get L k hlt)
    have hne := hn k hlt
    iterate 2 (refine zc_seq ?_)
    refine zc_region ?_
    iterate 3 (refine zl_pureL rfl ?_)
    refine z_fa want_none (by decide) rfl ?_
    refine z_loadB want_none (by decide) rfl (by assumption) (by rfl) ?_
    refine z_len want_none (by decide) rfl ?_
    refine z_cmpB (r := true) want_none (by decide) rfl rfl rfl (iff_of_true rfl (by omega)) ?_
    refine zl_nil ?_
    refine zk_seq ?_
    refine zc_true rfl ?_
    refine zc_skip ?_
    refine zk_seq ?_
    refine zc_seq ?_
    refine zc_block ?_
    refine zc_seq ?_
    refine zc_region ?_
    iterate 2 (refine zl_pureL rfl ?_)
    refine z_fa want_none (by decide) rfl ?_
    refine z_loadB want_none (by decide) rfl (by assumption) (by rfl) ?_
    refine zl_pureL rfl ?_
    refine z_ia want_none (by decide) rfl rfl (by omega) (by omega) ?_
    refine z_load1 (by first | exact want_none | exact want_L rfl) (by decide) rfl (cell_at hcell (by omega)) ?_
    refine zl_pureL rfl ?_
    refine z_cmpB (r := false) want_none (by decide) rfl rfl rfl (iff_of_false Bool.false_ne_true (by omega)) ?_
    refine zl_nil ?_
    refine zk_seq ?_
    refine zc_false rfl ?_
    refine zc_skip ?_
    refine zk_norm_block ?_
    refine zk_seq ?_
    refine zc_region ?_
    refine zl_pureL rfl ?_
    refine z_add want_none (by decide) rfl rfl (by omega) (by omega) ?_
    refine zl_pureL rfl ?_
    refine zl_nil ?_
    refine zk_loopW (k + 1) ⟨by omega, rfl⟩ (by omega) ⟨rfl, rfl, rfl, trivial⟩
  · iterate 2 (refine zc_seq ?_)
    refine zc_region ?_
    iterate 3 (refine zl_pureL rfl ?_)
    refine z_fa want_none (by decide) rfl ?_
    refine z_loadB want_none (by decide) rfl (by assumption) (by rfl) ?_
    refine z_len want_none (by decide) rfl ?_
    refine z_cmpB (r := false) want_none (by decide) rfl rfl rfl (iff_of_false Bool.false_ne_true (by omega)) ?_
    refine zl_nil ?_
    refine zk_seq ?_
    refine zc_false rfl ?_
    refine zc_exit ?_
    iterate 2 (refine zk_exit_then ?_)
    refine zk_exit_block ?_
    refine zk_seq ?_
    refine zc_seq ?_
    refine zc_region ?_
    refine zl_pureL rfl ?_
    refine zl_nil ?_
    refine zk_seq ?_
    refine zc_ret ?_
    exact zk_ret1 (.inr rfl) rfl rfl ⟨rfl, rfl⟩
theorem fld7 (w : World) (c0 c1 c2 c3 c4 c5 c6 : Value) : (Instr.field 52 (.agg #[c0, c1, c2, c3, c4, c5, c6]) 0).run Try.prog w = .ok c0 w := by kernel_rfl
theorem rsFresh_calls (h : IsT w t r N L) (hl : L.length ≤ 1000000) (n : Int) (hk : (nodeOf N n).kind = 1) (hn : ∀ k, k < L.length → ((L.getD k 0 : Nat) : Int) ≠ n) : Calls Try.prog 107 [.pointer (some ⟨t, 0, none⟩), .int .i64 n].toArray w fun e w' => e = .returned (.bool true) ∧ Chg w w' No := by
  have hb := h.blk
  refine calls_zc (n := 19) (f := 107) (fn := Try.f107) Try.func107 rfl rfl (by simp) ?_
  refine zc_seq ?_
  refine zc_region ?_
  refine zl_pureL rfl ?_
  refine zl_nil ?_
  refine zk_seq ?_
  refine zc_seq ?_
  refine zc_region ?_
  iterate 2 (refine zl_pureL rfl ?_)
  refine z_fa want_none (by decide) rfl ?_
  refine z_loadB want_none (by decide) rfl (by assumption) (by rfl) ?_
  refine zl_pureL rfl ?_
  refine zl_call (by first | exact want_none | exact want_L rfl) rfl (by decide) rfl (rNode_calls h.doc n) ?_
  rintro _ w1 ⟨va, rfl, _, hC1⟩
  refine ⟨_, rfl, ?_⟩
  rw [hk]
  refine z_field (by first | exact want_none | exact want_L rfl) (by decide) rfl (fld7 _ _ _ _ _ _ _ _) ?_
  refine z_cmpB (r := true) want_none (by decide) rfl rfl rfl (iff_of_true rfl (by omega)) ?_
  iterate 3 (refine zl_pureL rfl ?_)
  refine zl_call (by first | exact want_none | exact want_L rfl) rfl (by decide) rfl (rsPlace_calls (h.no hC1) hl n hn) ?_
  rintro _ u ⟨rfl, hu⟩
  obtain rfl := hu.symm
  refine ⟨_, rfl, ?_⟩
  refine z_cmpB (r := true) (want_L rfl) (by decide) rfl rfl rfl (iff_of_true rfl (by omega)) ?_
  iterate 2 (refine zl_pureL rfl ?_)
  refine zl_nil ?_
  refine zk_seq ?_
  refine zc_ret ?_
  exact zk_ret1 (.inr rfl) rfl rfl ⟨rfl, hC1⟩
end
end Go.Proofs.Yteeibieaapiomaa.D
/- SRefB -/
/- The document's Site: Put, Push, Add, New. Printed by rsput.py. -/
namespace Go.Proofs.Yteeibieaapiomaa.D
open Go Go.Z Go.Proofs
set_option linter.unusedVariables false
section
variable {w w' w0 w1 w2 : World} {t : Nat} {r r' r1 : TP} {N N' : List ND} {L L' : List Nat} {S : Nat → Prop}
theorem IsT.rowW (h : IsT w t r N L) {v : Value} (hU : Upd w w' t 108 [.pointer (some ⟨r.pd, 0, none⟩), .pointer (some ⟨r.pm, 0, none⟩), v, .bool false]) (hO : Own w 3 1 v L'.length (intC L')) (hn : ∀ k, v.ownBlock = some k → w0.heap.size ≤ k) (hC : Chg w0 w No) (h0 : IsT w0 t r N L) :
    IsT w' t { r with vrow := v } N L' ∧ WrT w0 w' t r { r with vrow := v } := by
  have hR : OneT w 108 (fun k => k = t) := fun k hk => ⟨_, hk ▸ h.blk⟩
  refine ⟨⟨hU.blk, h.doc.chg hU.chg (fun k hk he => h.doc.noT' h.blk (by decide) (by decide) (by decide) (by decide) (he ▸ hk)) (fun b cells hb he => absurd (hb.inj (he ▸ h.blk)).1 (by decide)), hO.typ hU.chg hR (by decide), fun k hk hf => ?_⟩, ⟨(hC.mono (fun _ _ h => h.elim)).trans hU.chg (fun k _ hk => .inl hk), ?_⟩⟩
  · have := hn k hk
    have := h0.doc.lt k hf
    omega
  · rintro k (hk | hk | hk)
    · exact .inl (.inl hk)
    · exact .inr (hn k hk)
    · exact .inl (.inr (.inr hk))
set_option maxRecDepth 100000 in
set_option maxHeartbeats 16000000 in
theorem rsPut_calls (h : IsT w t r N L) (hl : L.length ≤ 1000000) (hL : 0 < L.length) (n : Nat) (hk : (nodeOf N (n : Nat)).kind = 1) (hn : ∀ k, k < L.length → L.getD k 0 ≠ n) :
    Calls Try.prog 96 [.pointer (some ⟨t, 0, none⟩), .int .i64 L.length, .int .i64 n].toArray w fun e w' => e = .returned (.bool true) ∧ ∃ v, IsT w' t { r with vrow := v } N (L ++ [n]) ∧ WrT w w' t r { r with vrow := v } := by
  obtain ⟨Ar, cr, hv, hc⟩ := h.row.rd.form
  have hb0 := h.blk
  have hK := h.row
  rw [hv] at hb0 hK
  refine calls_zc (n := 45) (f := 96) (fn := Try.f96) Try.func96 rfl rfl (by simp) ?_
  refine zc_seq ?_
  refine zc_region ?_
  refine zl_pureL rfl ?_
  refine zl_nil ?_
  refine zk_seq ?_
  iterate 2 (refine zc_seq ?_)
  refine zc_region ?_
  iterate 2 (refine zl_pureL rfl ?_)
  refine zl_call (by first | exact want_none | exact want_L rfl) rfl (by decide) rfl (rsFresh_calls h hl n hk (fun k hk he => hn k hk (by omega))) ?_
  rintro _ wa ⟨rfl, hCa⟩
  refine ⟨_, rfl, ?_⟩
  have hba := hb0.no hCa
  iterate 3 (refine zl_pureL rfl ?_)
  refine z_cmpB (r := false) (want_L rfl) (by decide) rfl rfl rfl (iff_of_false Bool.false_ne_true (by omega)) ?_
  iterate 5 (refine zl_pureL rfl ?_)
  refine z_fa (want_L rfl) (by decide) rfl ?_
  refine z_loadB (want_L rfl) (by decide) rfl (by assumption) (by rfl) ?_
  refine z_len (want_L rfl) (by decide) rfl ?_
  refine z_cmpB (r := false) (want_L rfl) (by decide) rfl rfl rfl (iff_of_false Bool.false_ne_true (by omega)) ?_
  refine zl_pureL rfl ?_
  refine zl_nil ?_
  refine zk_seq ?_
  refine zc_false rfl ?_
  refine zc_skip ?_
  refine zk_seq ?_
  refine zc_seq ?_
  refine zc_draw [21] (fun w' => Chg w w' No ∧ Blk w' t 108 [.pointer (some ⟨r.pd, 0, none⟩), .pointer (some ⟨r.pm, 0, none⟩), .slice Ar L.length cr, .bool false]) (.take 0 (.take 2 (.take 3 (.take 4 (.take 5 (.take 6 (.take 7 (.take 9 (.take 12 (.take 13 (.take 14 (.take 15 (.take 16 (.take 17 (.all2 1 (.all2 8 (.all1 10 (.all1 11 (.all1 18 (.plain 19 (.take 20 (.last 21)))))) 10 (.all1 8 (.all1 11 (.all1 18 (.plain 19 (.take 20 (.last 21))))))) 10 (.all1 1 (.all1 8 (.all1 11 (.all1 18 (.plain 19 (.take 20 (.last 21)))))))))))))))))))))) (by rfl) (by kernel_rfl) (by kernel_rfl) (fun w1 hD1 _ => ⟨?_, ?_⟩)
  · exact ⟨hCa.no hD1, hba.no hD1⟩
  have hCw1 : Chg w w1 No := hCa.no hD1
  have hb := hb0
  iterate 3 (refine zs_take rfl (zt_pure rfl ?_))
  refine zs_rdL rfl want_none rfl (by decide) (fun _ hS => r_fa rfl) ?_
  refine zs_rdL rfl want_none rfl (by decide) (fun _ hS => r_loadB rfl hS.2 (by rfl)) ?_
  refine zs_take rfl (zt_pure rfl ?_)
  refine zs_rdL rfl (by first | exact want_none | exact want_L rfl) rfl (by decide) (fun _ hS => r_cutTo (k := L.length) hK.flat rfl rfl (by omega)) ?_
  iterate 3 (refine zs_take rfl (zt_pure rfl ?_))
  refine zs_rdL rfl want_none rfl (by decide) (fun _ hS => r_fa rfl) ?_
  refine zs_rdL rfl want_none rfl (by decide) (fun _ hS => r_loadB rfl hS.2 (by rfl)) ?_
  refine zs_take rfl (zt_pure rfl ?_)
  refine zs_rdL rfl (by first | exact want_none | exact want_L rfl) rfl (by decide) (fun _ hS => r_cutFrom (k := L.length) rfl rfl (by omega) (by omega)) ?_
  skip
  refine zs_two ?_ ?_
  · refine zo_bs0 rfl (by first | exact want_none | exact want_L rfl) (by decide) (fun w2 ca hMw2 => ?_)
    have hCw2 : Chg w w2 No := hCw1.no hMw2.chg
    refine ⟨⟨hCw2, hb.no hCw2⟩, ?_⟩
    have hF : FO w.heap.size w2 (.slice (some ⟨ca, 0, none⟩) 0 0) 0 [] := ⟨Own.empty hMw2, fun k hk => by simp only [Value.ownBlock, Option.some.injEq] at hk; have := hMw2.at_; have := hCw1.size; omega⟩
    refine zs_two ?_ ?_
    · refine zo_appendO rfl (by rfl) (by decide) (by first | exact want_none | exact want_L rfl) (by decide) rfl rfl hF.1 ((hK.take L.length (Nat.le_refl _)).rd.no hCw2) (by omega) (by omega) (fun vw3 w3 hOw3 hXw3 hrw3 => ?_)
      have hCw3 : Chg w w3 No := hF.ch hCw2 hXw3
      refine ⟨⟨hCw3, hb.no hCw3⟩, ?_⟩
      have hF := hF.grow hCw2.size hOw3 hrw3
      obtain ⟨Aw3, cw3, hvw3, _⟩ := hF.1.rd.form
      subst hvw3
      refine zs_bs1 rfl (by first | exact want_none | exact want_L rfl) (by decide) rfl (by rfl) (by rfl) (by decide) (by decide) (fun w4 cb hMw4 => ?_)
      have hCw4 : Chg w w4 No := hCw3.no hMw4.chg
      refine ⟨⟨hCw4, hb.no hCw4⟩, ?_⟩
      have hr1 : RdS w4 3 1 (.slice (some ⟨cb, 0, none⟩) 1 1) 1 [.int .i64 ((n : Nat) : Int)] := RdS.new hMw4 rfl (by simp [Value.oneCell'])
      have hF := hF.no hMw4.chg
      refine zs_appendO rfl (by rfl) (by decide) (by first | exact want_none | exact want_L rfl) (by decide) rfl rfl hF.1 hr1 (by omega) (by omega) (fun vw5 w5 hOw5 hXw5 hrw5 => ?_)
      have hCw5 : Chg w w5 No := hF.ch hCw4 hXw5
      refine ⟨⟨hCw5, hb.no hCw5⟩, ?_⟩
      have hF := hF.grow hCw4.size hOw5 hrw5
      obtain ⟨Aw5, cw5, hvw5, _⟩ := hF.1.rd.form
      subst hvw5
      refine zs_appendO rfl (by rfl) (by decide) (by first | exact want_none | exact want_L rfl) (by decide) rfl rfl hF.1 ((RdS.cut hK.rd (k := L.length) (Nat.le_refl _)).no hCw5) (by omega) (by omega) (fun vw6 w6 hOw6 hXw6 hrw6 => ?_)
      have hCw6 : Chg w w6 No := hF.ch hCw5 hXw6
      refine ⟨⟨hCw6, hb.no hCw6⟩, ?_⟩
      have hF := hF.grow hCw5.size hOw6 hrw6
      obtain ⟨Aw6, cw6, hvw6, _⟩ := hF.1.rd.form
      subst hvw6
      refine zs_plainL rfl rfl ?_
      refine zs_rdL rfl want_none rfl (by decide) (fun _ hS => r_fa rfl) ?_
      have hO : Own w6 3 1 (.slice Aw6 (0 + L.length + 1 + (L.length - L.length)) cw6) (L ++ [n]).length (intC (L ++ [n])) := by
        have e := hF.1
        have hil : (intC L).length = L.length * 1 := intC_len L
        rw [List.nil_append, List.take_of_length_le (by omega), List.drop_of_length_le (by omega), List.append_nil] at e
        rw [show (L ++ [n]).length = 0 + L.length + 1 + (L.length - L.length) by rw [List.length_append, List.length_singleton]; omega, intC_app]
        exact e
      have hb6 := hb.no hCw6
      refine zs_storeL rfl (by first | exact want_none | exact want_L rfl) rfl rfl rfl (by assumption) (by first | exact Nat.le_refl _ | simp [Value.cells]) (by simp [Value.cells, Value.oneCell']) (fun w7 hU7 => ?_)
      refine zk_seq ?_
      refine zc_seq ?_
      refine zc_region ?_
      refine zl_pureL rfl ?_
      refine zl_nil ?_
      refine zk_seq ?_
      refine zc_ret ?_
      exact zk_ret1 (.inr rfl) rfl rfl ⟨rfl, _, (h.no hCw6).rowW hU7 hO hF.2 hCw6 h⟩
    · refine zo_bs1 rfl (by first | exact want_none | exact want_L rfl) (by decide) rfl (by rfl) (by rfl) (by decide) (by decide) (fun w3 cb hMw3 => ?_)
      have hCw3 : Chg w w3 No := hCw2.no hMw3.chg
      refine ⟨⟨hCw3, hb.no hCw3⟩, ?_⟩
      have hr1 : RdS w3 3 1 (.slice (some ⟨cb, 0, none⟩) 1 1) 1 [.int .i64 ((n : Nat) : Int)] := RdS.new hMw3 rfl (by simp [Value.oneCell'])
      have hF := hF.no hMw3.chg
      refine zs_appendO rfl (by rfl) (by decide) (by first | exact want_none | exact want_L rfl) (by decide) rfl rfl hF.1 ((hK.take L.length (Nat.le_refl _)).rd.no hCw3) (by omega) (by omega) (fun vw4 w4 hOw4 hXw4 hrw4 => ?_)
      have hCw4 : Chg w w4 No := hF.ch hCw3 hXw4
      refine ⟨⟨hCw4, hb.no hCw4⟩, ?_⟩
      have hr1 := hF.rd hXw4 hr1 (fun k hk he => by simp only [Value.ownBlock, Option.some.injEq] at hk he; have := hMw3.at_; have := hMw2.at_; have := hMw2.size; omega)
      have hF := hF.grow hCw3.size hOw4 hrw4
      obtain ⟨Aw4, cw4, hvw4, _⟩ := hF.1.rd.form
      subst hvw4
      refine zs_appendO rfl (by rfl) (by decide) (by first | exact want_none | exact want_L rfl) (by decide) rfl rfl hF.1 hr1 (by omega) (by omega) (fun vw5 w5 hOw5 hXw5 hrw5 => ?_)
      have hCw5 : Chg w w5 No := hF.ch hCw4 hXw5
      refine ⟨⟨hCw5, hb.no hCw5⟩, ?_⟩
      have hF := hF.grow hCw4.size hOw5 hrw5
      obtain ⟨Aw5, cw5, hvw5, _⟩ := hF.1.rd.form
      subst hvw5
      refine zs_appendO rfl (by rfl) (by decide) (by first | exact want_none | exact want_L rfl) (by decide) rfl rfl hF.1 ((RdS.cut hK.rd (k := L.length) (Nat.le_refl _)).no hCw5) (by omega) (by omega) (fun vw6 w6 hOw6 hXw6 hrw6 => ?_)
      have hCw6 : Chg w w6 No := hF.ch hCw5 hXw6
      refine ⟨⟨hCw6, hb.no hCw6⟩, ?_⟩
      have hF := hF.grow hCw5.size hOw6 hrw6
      obtain ⟨Aw6, cw6, hvw6, _⟩ := hF.1.rd.form
      subst hvw6
      refine zs_plainL rfl rfl ?_
      refine zs_rdL rfl want_none rfl (by decide) (fun _ hS => r_fa rfl) ?_
      have hO : Own w6 3 1 (.slice Aw6 (0 + L.length + 1 + (L.length - L.length)) cw6) (L ++ [n]).length (intC (L ++ [n])) := by
        have e := hF.1
        have hil : (intC L).length = L.length * 1 := intC_len L
        rw [List.nil_append, List.take_of_length_le (by omega), List.drop_of_length_le (by omega), List.append_nil] at e
        rw [show (L ++ [n]).length = 0 + L.length + 1 + (L.length - L.length) by rw [List.length_append, List.length_singleton]; omega, intC_app]
        exact e
      have hb6 := hb.no hCw6
      refine zs_storeL rfl (by first | exact want_none | exact want_L rfl) rfl rfl rfl (by assumption) (by first | exact Nat.le_refl _ | simp [Value.cells]) (by simp [Value.cells, Value.oneCell']) (fun w7 hU7 => ?_)
      refine zk_seq ?_
      refine zc_seq ?_
      refine zc_region ?_
      refine zl_pureL rfl ?_
      refine zl_nil ?_
      refine zk_seq ?_
      refine zc_ret ?_
      exact zk_ret1 (.inr rfl) rfl rfl ⟨rfl, _, (h.no hCw6).rowW hU7 hO hF.2 hCw6 h⟩
  · refine zo_bs1 rfl (by first | exact want_none | exact want_L rfl) (by decide) rfl (by rfl) (by rfl) (by decide) (by decide) (fun w2 cb hMw2 => ?_)
    have hCw2 : Chg w w2 No := hCw1.no hMw2.chg
    refine ⟨⟨hCw2, hb.no hCw2⟩, ?_⟩
    have hr1 : RdS w2 3 1 (.slice (some ⟨cb, 0, none⟩) 1 1) 1 [.int .i64 ((n : Nat) : Int)] := RdS.new hMw2 rfl (by simp [Value.oneCell'])
    refine zs_bs0 rfl (by first | exact want_none | exact want_L rfl) (by decide) (fun w3 ca hMw3 => ?_)
    have hCw3 : Chg w w3 No := hCw2.no hMw3.chg
    refine ⟨⟨hCw3, hb.no hCw3⟩, ?_⟩
    have hF : FO w.heap.size w3 (.slice (some ⟨ca, 0, none⟩) 0 0) 0 [] := ⟨Own.empty hMw3, fun k hk => by simp only [Value.ownBlock, Option.some.injEq] at hk; have := hMw3.at_; have := hCw2.size; omega⟩
    have hr1 := hr1.no hMw3.chg
    refine zs_appendO rfl (by rfl) (by decide) (by first | exact want_none | exact want_L rfl) (by decide) rfl rfl hF.1 ((hK.take L.length (Nat.le_refl _)).rd.no hCw3) (by omega) (by omega) (fun vw4 w4 hOw4 hXw4 hrw4 => ?_)
    have hCw4 : Chg w w4 No := hF.ch hCw3 hXw4
    refine ⟨⟨hCw4, hb.no hCw4⟩, ?_⟩
    have hr1 := hF.rd hXw4 hr1 (fun k hk he => by simp only [Value.ownBlock, Option.some.injEq] at hk he; have := hMw3.at_; have := hMw2.at_; have := hMw2.size; omega)
    have hF := hF.grow hCw3.size hOw4 hrw4
    obtain ⟨Aw4, cw4, hvw4, _⟩ := hF.1.rd.form
    subst hvw4
    refine zs_appendO rfl (by rfl) (by decide) (by first | exact want_none | exact want_L rfl) (by decide) rfl rfl hF.1 hr1 (by omega) (by omega) (fun vw5 w5 hOw5 hXw5 hrw5 => ?_)
    have hCw5 : Chg w w5 No := hF.ch hCw4 hXw5
    refine ⟨⟨hCw5, hb.no hCw5⟩, ?_⟩
    have hF := hF.grow hCw4.size hOw5 hrw5
    obtain ⟨Aw5, cw5, hvw5, _⟩ := hF.1.rd.form
    subst hvw5
    refine zs_appendO rfl (by rfl) (by decide) (by first | exact want_none | exact want_L rfl) (by decide) rfl rfl hF.1 ((RdS.cut hK.rd (k := L.length) (Nat.le_refl _)).no hCw5) (by omega) (by omega) (fun vw6 w6 hOw6 hXw6 hrw6 => ?_)
    have hCw6 : Chg w w6 No := hF.ch hCw5 hXw6
    refine ⟨⟨hCw6, hb.no hCw6⟩, ?_⟩
    have hF := hF.grow hCw5.size hOw6 hrw6
    obtain ⟨Aw6, cw6, hvw6, _⟩ := hF.1.rd.form
    subst hvw6
    refine zs_plainL rfl rfl ?_
    refine zs_rdL rfl want_none rfl (by decide) (fun _ hS => r_fa rfl) ?_
    have hO : Own w6 3 1 (.slice Aw6 (0 + L.length + 1 + (L.length - L.length)) cw6) (L ++ [n]).length (intC (L ++ [n])) := by
      have e := hF.1
      have hil : (intC L).length = L.length * 1 := intC_len L
      rw [List.nil_append, List.take_of_length_le (by omega), List.drop_of_length_le (by omega), List.append_nil] at e
      rw [show (L ++ [n]).length = 0 + L.length + 1 + (L.length - L.length) by rw [List.length_append, List.length_singleton]; omega, intC_app]
      exact e
    have hb6 := hb.no hCw6
    refine zs_storeL rfl (by first | exact want_none | exact want_L rfl) rfl rfl rfl (by assumption) (by first | exact Nat.le_refl _ | simp [Value.cells]) (by simp [Value.cells, Value.oneCell']) (fun w7 hU7 => ?_)
    refine zk_seq ?_
    refine zc_seq ?_
    refine zc_region ?_
    refine zl_pureL rfl ?_
    refine zl_nil ?_
    refine zk_seq ?_
    refine zc_ret ?_
    exact zk_ret1 (.inr rfl) rfl rfl ⟨rfl, _, (h.no hCw6).rowW hU7 hO hF.2 hCw6 h⟩
end
end Go.Proofs.Yteeibieaapiomaa.D
/- SRefC -/
/- The document's Site: Push, Lay, Add, New. -/
namespace Go.Proofs.Yteeibieaapiomaa.D
open Go Go.Z Go.Proofs
set_option linter.unusedVariables false
section
variable {w w' w0 w1 w2 : World} {t : Nat} {r r' r1 : TP} {N N' : List ND} {L L' : List Nat} {S : Nat → Prop}
set_option maxHeartbeats 8000000 in
theorem rsPush_calls (h : IsT w t r N L) (hl : L.length ≤ 1000000) (hL : 0 < L.length) (n : Nat) (hk : (nodeOf N (n : Nat)).kind = 1) (hn : ∀ k, k < L.length → L.getD k 0 ≠ n) :
    Calls Try.prog 73 [.pointer (some ⟨t, 0, none⟩), .int .i64 n].toArray w fun e w' => e = .returned (.bool true) ∧ ∃ v, IsT w' t { r with vrow := v } N (L ++ [n]) ∧ WrT w w' t r { r with vrow := v } := by
  obtain ⟨Ar, cr, hv, hc⟩ := h.row.rd.form
  have hb := h.blk
  rw [hv] at hb
  refine calls_zc (n := 13) (f := 73) (fn := Try.f73) Try.func73 rfl rfl (by simp) ?_
  refine zc_seq ?_
  refine zc_region ?_
  refine zl_pureL rfl ?_
  refine zl_nil ?_
  refine zk_seq ?_
  refine zc_seq ?_
  refine zc_region ?_
  iterate 3 (refine zl_pureL rfl ?_)
  refine z_fa want_none (by decide) rfl ?_
  refine z_loadB want_none (by decide) rfl (by assumption) (by rfl) ?_
  refine z_len want_none (by decide) rfl ?_
  refine zl_pureL rfl ?_
  refine zl_call (by first | exact want_none | exact want_L rfl) rfl (by decide) rfl (rsPut_calls h hl hL n hk hn) ?_
  rintro _ w1 ⟨rfl, h1⟩
  refine ⟨_, rfl, ?_⟩
  refine zl_pureL rfl ?_
  refine zl_nil ?_
  refine zk_seq ?_
  refine zc_ret ?_
  exact zk_ret1 (.inr rfl) rfl rfl ⟨rfl, h1⟩
set_option maxHeartbeats 8000000 in
theorem rsSpot_calls (h : IsT w t r N L) (n : Int) : Calls Try.prog 94 [.pointer (some ⟨t, 0, none⟩), .int .i64 n].toArray w fun e w' => e = .returned (.tuple #[.int .i64 n, .int .i64 (-1)]) ∧ w' = w := by
  have hb := h.blk
  refine calls_zc (n := 86) (f := 94) (fn := Try.f94) Try.func94 rfl rfl (by simp) ?_
  refine zc_seq ?_
  refine zc_region ?_
  iterate 2 (refine zl_pureL rfl ?_)
  refine zl_nil ?_
  refine zk_seq ?_
  iterate 2 (refine zc_seq ?_)
  refine zc_region ?_
  iterate 2 (refine zl_pureL rfl ?_)
  refine z_fa want_none (by decide) rfl ?_
  refine z_loadB want_none (by decide) rfl (by assumption) (by rfl) ?_
  iterate 4 (refine zl_pureL rfl ?_)
  iterate 2 (refine zl_skip rfl ?_)
  iterate 2 (refine zl_pureL rfl ?_)
  refine zl_nil ?_
  refine zk_seq ?_
  refine zc_true rfl ?_
  refine zc_seq ?_
  refine zc_region ?_
  iterate 3 (refine zl_pureL rfl ?_)
  refine zl_nil ?_
  refine zk_seq ?_
  refine zc_ret ?_
  refine zk_ret_then ?_
  exact zk_ret2 (.inr rfl) rfl rfl rfl ⟨rfl, rfl⟩
set_option maxHeartbeats 8000000 in
theorem rsLay_calls (h : IsT w t r N L) (hW : WF N) (hl : N.length ≤ 100000) (n up : Int) : Calls Try.prog 71 [.pointer (some ⟨t, 0, none⟩), .int .i64 n, .int .i64 up].toArray w fun e w' => e = .returned (.tuple #[]) ∧ ∃ r' p N', r'.vrow = r.vrow ∧ PutR N n up (-1) p N' ∧ IsT w' t r' N' L ∧ WrT w w' t r r' := by
  have hb := h.blk
  refine calls_zc (n := 22) (f := 71) (fn := Try.f71) Try.func71 rfl rfl (by simp) ?_
  refine zc_seq ?_
  refine zc_region ?_
  iterate 2 (refine zl_pureL rfl ?_)
  refine zl_call (by first | exact want_none | exact want_L rfl) rfl (by decide) rfl (rsSpot_calls h up) ?_
  rintro _ u ⟨rfl, hu⟩
  obtain rfl := hu.symm
  refine ⟨_, rfl, ?_⟩
  iterate 5 (refine zl_pureL rfl ?_)
  refine zl_nil ?_
  refine zk_seq ?_
  refine zc_region ?_
  iterate 2 (refine zl_pureL rfl ?_)
  refine z_fa want_none (by decide) rfl ?_
  refine z_loadB want_none (by decide) rfl (by assumption) (by rfl) ?_
  iterate 3 (refine zl_pureL rfl ?_)
  refine zl_call (by first | exact want_none | exact want_L rfl) rfl (by decide) rfl (rPut_calls h.doc hW hl n up (-1)) ?_
  rintro _ w1 ⟨p, ks', N', rfl, hI, hWr, hR⟩
  refine ⟨_, rfl, ?_⟩
  obtain ⟨g1, g2⟩ := h.docW hI hWr
  refine zl_nil ?_
  exact zk_ret0 (.inl rfl) rfl ⟨rfl, { r with ks := ks' }, p, N', rfl, hR, g1, g2⟩
set_option maxHeartbeats 8000000 in
/-- an element, in the last of the row -/
theorem rsAdd_calls {ns : List ByteArray} (h : IsT w t r (lnN ns) (List.range (ns.length + 1))) (hW : WF (lnN ns)) (hl : ns.length ≤ 1000) (x : ByteArray) :
    Calls Try.prog 34 [.pointer (some ⟨t, 0, none⟩), .int .i64 1, .string x, .slice none 0 0].toArray w fun e w' => e = .returned (.int .i64 (lnN ns).length) ∧ ∃ r', IsT w' t r' (lnN (ns ++ [x])) (List.range (ns.length + 2)) ∧ WrT w w' t r r' := by
  have hb := h.blk
  have hnl := lnN_len ns
  have hL : (List.range (ns.length + 1)).length = ns.length + 1 := List.length_range
  refine calls_zc (n := 27) (f := 34) (fn := Try.f34) Try.func34 rfl rfl (by simp) ?_
  refine zc_seq ?_
  refine zc_region ?_
  refine zl_pureL rfl ?_
  refine zl_nil ?_
  refine zk_seq ?_
  refine zc_seq ?_
  refine zc_region ?_
  iterate 2 (refine zl_pureL rfl ?_)
  refine z_fa want_none (by decide) rfl ?_
  refine z_loadB want_none (by decide) rfl (by assumption) (by rfl) ?_
  iterate 3 (refine zl_pureL rfl ?_)
  refine zl_call (by first | exact want_none | exact want_L rfl) rfl (by decide) rfl (rElem'_calls h.doc (by omega) 1 x (AttrS.nil _) (Nat.zero_le _)) ?_
  rintro _ w1 ⟨rfl, vn', vu', vr', ms', ks', hI, hWr⟩
  refine ⟨_, rfl, ?_⟩
  obtain ⟨h1, hW1⟩ := h.docW hI hWr
  have hlast : (List.range (ns.length + 1)).getD ((List.range (ns.length + 1)).length - 1) 0 = ns.length := by
    rw [hL, List.getD_eq_getElem?_getD, List.getElem?_range (by omega)]; rfl
  refine zl_pureL rfl ?_
  refine zl_nil ?_
  refine zk_seq ?_
  refine zc_seq ?_
  refine zc_region ?_
  iterate 3 (refine zl_pureL rfl ?_)
  refine zl_call (by first | exact want_none | exact want_L rfl) rfl (by decide) rfl (rsTop_calls h1 (by omega) (by omega)) ?_
  rintro _ w2 ⟨rfl, hC2⟩
  refine ⟨_, rfl, ?_⟩
  rw [hlast]
  have h2 := h1.no hC2
  have hWF : WF (lnN ns ++ [⟨1, 1, x, [], [], -1, []⟩]) := hW.add rfl rfl
  skip
  refine zl_call (by first | exact want_none | exact want_L rfl) rfl (by decide) rfl (rsLay_calls h2 hWF (by simp; omega) _ _) ?_
  rintro _ w3 ⟨rfl, r3, p3, N3, hv3, hR3, h3, hW3⟩
  refine ⟨_, rfl, ?_⟩
  have e3 : N3 = lnN (ns ++ [x]) := ln_put ns x hW hR3
  subst e3
  have hkind : (nodeOf (lnN (ns ++ [x])) ((ns.length + 1 : Nat) : Int)).kind = 1 := by
    have hl2 := lnN_len (ns ++ [x])
    rw [List.length_append, List.length_singleton] at hl2
    have : nodeOf (lnN (ns ++ [x])) ((ns.length + 1 : Nat) : Int) = (lnN (ns ++ [x])).getD (ns.length + 1) n0 := if_pos ⟨by omega, by omega⟩
    rw [this, lnN_get _ _ (by simp)]; rfl
  rw [hnl]
  refine zl_nil ?_
  refine zk_seq ?_
  refine zc_seq ?_
  refine zc_region ?_
  iterate 2 (refine zl_pureL rfl ?_)
  refine zl_call (by first | exact want_none | exact want_L rfl) rfl (by decide) rfl (rsPush_calls h3 (by omega) (by omega) (ns.length + 1) hkind (fun k hk => by
    rw [hL] at hk
    rw [List.getD_eq_getElem?_getD, List.getElem?_range (by omega)]
    show k ≠ _
    omega)) ?_
  rintro _ w4 ⟨rfl, v4, h4, hW4⟩
  refine ⟨_, rfl, ?_⟩
  rw [← List.range_succ] at h4
  refine zl_nil ?_
  refine zk_seq ?_
  refine zc_seq ?_
  refine zc_region ?_
  iterate 2 (refine zl_pureL rfl ?_)
  refine zl_nil ?_
  refine zk_seq ?_
  refine zc_ret ?_
  exact zk_ret1 (.inr rfl) rfl rfl ⟨rfl, _, h4, ((hW1.trans (WrT.of_no hC2 _ _)).trans hW3).trans hW4⟩
theorem rmNew_calls : Calls Try.prog 68 [].toArray w fun x w' => ∃ b, x = .returned (.pointer (some ⟨b, 0, none⟩)) ∧ New w w' b 125 [.slice none 0 0] := by
  refine calls_zc (n := 3) (f := 68) (fn := Try.f68) Try.func68 rfl rfl (by simp) ?_
  refine zc_seq ?_
  refine zc_region ?_
  refine zl_pureL rfl ?_
  refine zl_nil ?_
  refine zk_seq ?_
  refine zc_seq ?_
  refine zc_region ?_
  refine z_buildE #[.slice none 0 0] (by first | exact want_none | exact want_L rfl) (by decide) rfl (by kernel_rfl) ?_
  refine z_box (by first | exact want_none | exact want_L rfl) (by decide) rfl (fun w1 b1 hN1 => ?_)
  refine zl_pureL rfl ?_
  refine zl_nil ?_
  refine zk_seq ?_
  refine zc_ret ?_
  exact zk_ret1 (.inr rfl) rfl rfl ⟨b1, rfl, hN1⟩
set_option maxHeartbeats 8000000 in
theorem rsNew_calls : Calls Try.prog 32 [].toArray w fun x w' => ∃ t r, x = .returned (.pointer (some ⟨t, 0, none⟩)) ∧ IsT w' t r rootN [0] ∧ Chg w w' No ∧ ∀ k, footT t r k → w.heap.size ≤ k := by
  refine calls_zc (n := 6) (f := 32) (fn := Try.f32) Try.func32 rfl rfl (by simp) ?_
  refine zc_seq ?_
  refine zc_region ?_
  refine zl_pureL rfl ?_
  refine zl_nil ?_
  refine zk_seq ?_
  refine zc_seq ?_
  refine zc_region ?_
  refine zl_call (by first | exact want_none | exact want_L rfl) rfl (by decide) rfl rNew_calls ?_
  rintro _ w1 ⟨pd, vn, vu, vr, ms, ks, rfl, hI, hC1, hge⟩
  refine ⟨_, rfl, ?_⟩
  skip
  refine zl_call (by first | exact want_none | exact want_L rfl) rfl (by decide) rfl rmNew_calls ?_
  rintro _ w2 ⟨pm, rfl, hN2⟩
  refine ⟨_, rfl, ?_⟩
  skip
  refine z_bs1 (by first | exact want_none | exact want_L rfl) (by decide) rfl (by rfl) (by rfl) (by decide) (by decide) (fun w3 b3 hN3 => ?_)
  refine z_buildE #[.pointer (some ⟨pd, 0, none⟩), .pointer (some ⟨pm, 0, none⟩), .slice (some ⟨b3, 0, none⟩) 1 1, .bool false] (by first | exact want_none | exact want_L rfl) (by decide) rfl (by kernel_rfl) ?_
  refine z_box (by first | exact want_none | exact want_L rfl) (by decide) rfl (fun w4 b4 hN4 => ?_)
  have hC2 := hC1.no hN2.chg
  have hC3 := hC2.no hN3.chg
  have hC4 := hC3.no hN4.chg
  have s1 := hC1.size
  have s2 := hN2.chg.size
  have s3 := hN3.chg.size
  have e3 := hN3.at_
  have e4 := hN4.at_
  have hO3 : Own w3 3 1 (.slice (some ⟨b3, 0, none⟩) 1 1) 1 (intC [0]) := Own.mk' (junk := []) rfl (Nat.le_refl _) (by decide) (by rw [List.append_nil]; exact hN3.blk) rfl (intC_one _)
  refine zl_pureL rfl ?_
  refine zl_nil ?_
  refine zk_seq ?_
  refine zc_ret ?_
  refine zk_ret1 (.inr rfl) rfl rfl ⟨b4, ⟨pd, pm, vn, vu, vr, ms, ks, .slice (some ⟨b3, 0, none⟩) 1 1⟩, rfl, ⟨hN4.blk, ((hI.no hN2.chg).no hN3.chg).no hN4.chg, hO3.no hN4.chg, fun k hk hf => ?_⟩, hC4, ?_⟩
  · simp only [Value.ownBlock, Option.some.injEq] at hk
    have := hI.lt k hf
    omega
  · rintro k (hk | hk | hk)
    · omega
    · simp only [Value.ownBlock, Option.some.injEq] at hk; omega
    · exact hge k hk
end
end Go.Proofs.Yteeibieaapiomaa.D
/- SRefD -/
/- The document's Site: Is, Has; its walls. -/
namespace Go.Proofs.Yteeibieaapiomaa.D
open Go Go.Z Go.Proofs
set_option linter.unusedVariables false
theorem nmsC_map (l : List (List UInt8)) : nmsC (l.map bs) = cellsS l := by simp [nmsC, cellsS]
theorem NS.words {w : World} {v : Value} {l : List (List UInt8)} (h : Own w 9 1 v l.length (cellsS l)) : NS w v (l.map bs) := by
  unfold NS
  rw [List.length_map, nmsC_map]
  exact h.rd
theorem rIn_calls {w : World} {v : Value} {l : List ByteArray} (h : NS w v l) (hl : l.length ≤ 1000000) (x : ByteArray) : Calls Try.prog 99 [v, .string x].toArray w fun e w' => e = .returned (.bool (memB x l)) ∧ w' = w := by
  obtain ⟨A, c, rfl, hc⟩ := h.form
  refine calls_zc (n := 18) (f := 99) (fn := Try.f99) Try.func99 rfl rfl (by simp) ?_
  refine zc_seq ?_
  refine zc_region ?_
  refine zl_pureL rfl ?_
  refine zl_nil ?_
  refine zk_seq ?_
  iterate 2 (refine zc_seq ?_)
  refine zc_region ?_
  refine zl_pureL rfl ?_
  refine zl_nil ?_
  refine zk_seq ?_
  refine zc_block ?_
  refine zc_loopW (ι := Nat) (fun k u => [(0, .slice A l.length c), (1, .string x), (5, .int .i64 (k : Nat))]) (fun k u => k ≤ l.length ∧ u = w ∧ ∀ j, j < k → l.getD j eb ≠ x) (fun k u => l.length - k) 0 ⟨Nat.zero_le _, rfl, fun j hj => by omega⟩ ?_ ?_
  · exact ⟨rfl, rfl, rfl, trivial⟩
  rintro k u ⟨hk, rfl, hno⟩
  by_cases hlt : k < l.length
  · obtain ⟨b, o, c', hv, _, hcc⟩ := RdS.some h (by omega)
    cases hv
    have hcell := hcc k _ (nmsC_get l k hlt)
    by_cases hq : l.getD k eb = x
    · rw [memB_iff.2 (show x ∈ l by rw [← hq]; exact getD_mem hlt)]
      iterate 2 (refine zc_seq ?_)
      refine zc_region ?_
      iterate 2 (refine zl_pureL rfl ?_)
      refine z_len want_none (by decide) rfl ?_
      refine z_cmpB (r := true) want_none (by decide) rfl rfl rfl (iff_of_true rfl (by omega)) ?_
      refine zl_nil ?_
      refine zk_seq ?_
      refine zc_true rfl ?_
      refine zc_skip ?_
      refine zk_seq ?_
      refine zc_seq ?_
      refine zc_block ?_
      refine zc_seq ?_
      refine zc_region ?_
      iterate 2 (refine zl_pureL rfl ?_)
      refine z_ia want_none (by decide) rfl rfl (by omega) (by omega) ?_
      refine z_load1 (by first | exact want_none | exact want_L rfl) (by decide) rfl (cell_at hcell (by omega)) ?_
      refine zl_pureL rfl ?_
      refine z_eqSB (by first | exact want_none | exact want_L rfl) (by decide) rfl rfl ?_
      rw [decide_eq_true hq]
      refine zl_nil ?_
      refine zk_seq ?_
      refine zc_true rfl ?_
      refine zc_seq ?_
      refine zc_region ?_
      refine zl_pureL rfl ?_
      refine zl_nil ?_
      refine zk_seq ?_
      refine zc_ret ?_
      refine zk_ret_block ?_
      iterate 2 (refine zk_ret_then ?_)
      refine zk_ret_block ?_
      refine zk_ret_then ?_
      exact zk_ret1 (.inr rfl) rfl rfl ⟨rfl, rfl⟩
    · iterate 2 (refine zc_seq ?_)
      refine zc_region ?_
      iterate 2 (refine zl_pureL rfl ?_)
      refine z_len want_none (by decide) rfl ?_
      refine z_cmpB (r := true) want_none (by decide) rfl rfl rfl (iff_of_true rfl (by omega)) ?_
      refine zl_nil ?_
      refine zk_seq ?_
      refine zc_true rfl ?_
      refine zc_skip ?_
      refine zk_seq ?_
      refine zc_seq ?_
      refine zc_block ?_
      refine zc_seq ?_
      refine zc_region ?_
      iterate 2 (refine zl_pureL rfl ?_)
      refine z_ia want_none (by decide) rfl rfl (by omega) (by omega) ?_
      refine z_load1 (by first | exact want_none | exact want_L rfl) (by decide) rfl (cell_at hcell (by omega)) ?_
      refine zl_pureL rfl ?_
      refine z_eqSB (by first | exact want_none | exact want_L rfl) (by decide) rfl rfl ?_
      rw [decide_eq_false hq]
      refine zl_nil ?_
      refine zk_seq ?_
      refine zc_false rfl ?_
      refine zc_skip ?_
      refine zk_norm_block ?_
      refine zk_seq ?_
      refine zc_region ?_
      refine zl_pureL rfl ?_
      refine z_add want_none (by decide) rfl rfl (by omega) (by omega) ?_
      refine zl_pureL rfl ?_
      refine zl_nil ?_
      refine zk_loopW (k + 1) ⟨by omega, rfl, fun j hj => ?_⟩ (by omega) ⟨rfl, rfl, rfl, trivial⟩
      rcases Nat.lt_or_ge j k with h1 | h1
      · exact hno j h1
      · obtain rfl : j = k := by omega
        exact hq
  · have hm : memB x l = false := by
      cases hq : memB x l
      · rfl
      · obtain ⟨j, hj, hjx⟩ := List.getElem_of_mem (memB_iff.1 hq)
        exact absurd (by rw [List.getD_eq_getElem?_getD, List.getElem?_eq_getElem hj]; exact hjx) (hno j (by omega))
    rw [hm]
    iterate 2 (refine zc_seq ?_)
    refine zc_region ?_
    iterate 2 (refine zl_pureL rfl ?_)
    refine z_len want_none (by decide) rfl ?_
    refine z_cmpB (r := false) want_none (by decide) rfl rfl rfl (iff_of_false Bool.false_ne_true (by omega)) ?_
    refine zl_nil ?_
    refine zk_seq ?_
    refine zc_false rfl ?_
    refine zc_exit ?_
    iterate 2 (refine zk_exit_then ?_)
    refine zk_exit_block ?_
    refine zk_seq ?_
    refine zc_seq ?_
    refine zc_region ?_
    refine zl_pureL rfl ?_
    refine zl_nil ?_
    refine zk_seq ?_
    refine zc_ret ?_
    exact zk_ret1 (.inr rfl) rfl rfl ⟨rfl, rfl⟩
def wH : List UInt8 := [97, 112, 112, 108, 101, 116, 32, 99, 97, 112, 116, 105, 111, 110, 32, 104, 116, 109, 108, 32, 109, 97, 114, 113, 117, 101, 101, 32, 111, 98, 106, 101, 99, 116, 32, 116, 97, 98, 108, 101, 32, 116, 100, 32, 116, 101, 109, 112, 108, 97, 116, 101, 32, 116, 104]
def wOl : List UInt8 := [32, 111, 108, 32, 117, 108]
def wBu : List UInt8 := [32, 98, 117, 116, 116, 111, 110]
def wT : List UInt8 := [104, 116, 109, 108, 32, 116, 97, 98, 108, 101, 32, 116, 101, 109, 112, 108, 97, 116, 101]
theorem wH_eq : (wordsN [] wH).map bs = anyH := by kernel_rfl
theorem wOl_eq : (wordsN [] (wH ++ wOl)).map bs = anyH ++ walL := by kernel_rfl
theorem wBu_eq : (wordsN [] (wH ++ wBu)).map bs = anyH ++ walB := by kernel_rfl
theorem wT_eq : (wordsN [] wT).map bs = walT := by kernel_rfl
theorem memB_app (x : ByteArray) (l r : List ByteArray) : memB x (l ++ r) = (memB x l || memB x r) := by unfold memB; rw [List.any_append]
set_option maxRecDepth 100000 in
set_option maxHeartbeats 8000000 in
theorem rWall_calls {w : World} (sc : Int) (hsc : sc = 1 ∨ sc = 2 ∨ sc = 3 ∨ sc = 4) (nm : ByteArray) : Calls Try.prog 79 [.int .i64 sc, .int .i64 1, .string nm].toArray w fun e w' => e = .returned (.bool (wallW sc 1 nm)) ∧ Chg w w' No := by
  have h0 : (bs wH) = ⟨#[97, 112, 112, 108, 101, 116, 32, 99, 97, 112, 116, 105, 111, 110, 32, 104, 116, 109, 108, 32, 109, 97, 114, 113, 117, 101, 101, 32, 111, 98, 106, 101, 99, 116, 32, 116, 97, 98, 108, 101, 32, 116, 100, 32, 116, 101, 109, 112, 108, 97, 116, 101, 32, 116, 104]⟩ := rfl
  rcases hsc with rfl | rfl | rfl | rfl
  · refine calls_zc (n := 45) (f := 79) (fn := Try.f79) Try.func79 rfl rfl (by simp) ?_
    refine zc_seq ?_
    refine zc_region ?_
    refine zl_pureL rfl ?_
    refine zl_nil ?_
    refine zk_seq ?_
    refine zc_seq ?_
    refine zc_region ?_
    refine zl_pureL rfl ?_
    refine zl_nil ?_
    refine zk_seq ?_
    iterate 2 (refine zc_seq ?_)
    refine zc_region ?_
    refine zl_pureL rfl ?_
    refine zl_nil ?_
    refine zk_seq ?_
    refine zc_block ?_
    refine zc_seq ?_
    refine zc_region ?_
    refine z_cmpB (r := false) want_none (by decide) rfl rfl rfl (iff_of_false Bool.false_ne_true (by omega)) ?_
    refine zl_pureL rfl ?_
    refine zl_nil ?_
    refine zk_seq ?_
    refine zc_false rfl ?_
    refine zc_seq ?_
    refine zc_region ?_
    refine z_cmpB (r := false) want_none (by decide) rfl rfl rfl (iff_of_false Bool.false_ne_true (by omega)) ?_
    refine zl_pureL rfl ?_
    refine zl_nil ?_
    refine zk_seq ?_
    refine zc_false rfl ?_
    refine zc_seq ?_
    refine zc_region ?_
    refine z_cmpB (r := false) want_none (by decide) rfl rfl rfl (iff_of_false Bool.false_ne_true (by omega)) ?_
    refine zl_pureL rfl ?_
    refine zl_nil ?_
    refine zk_seq ?_
    refine zc_false rfl ?_
    refine zc_seq ?_
    refine zc_region ?_
    refine z_cmpB (r := true) want_none (by decide) rfl rfl rfl (iff_of_true rfl (by omega)) ?_
    refine zl_pureL rfl ?_
    refine zl_nil ?_
    refine zk_seq ?_
    refine zc_true rfl ?_
    refine zc_skip ?_
    refine zk_norm_block ?_
    refine zk_seq ?_
    iterate 2 (refine zc_seq ?_)
    refine zc_region ?_
    refine zl_pureL rfl ?_
    refine zl_nil ?_
    refine zk_seq ?_
    refine zc_block ?_
    refine zc_seq ?_
    refine zc_region ?_
    refine z_cmpB (r := true) want_none (by decide) rfl rfl rfl (iff_of_true rfl (by omega)) ?_
    refine zl_pureL rfl ?_
    refine zl_nil ?_
    refine zk_seq ?_
    refine zc_true rfl ?_
    refine zc_seq ?_
    refine zc_region ?_
    refine zl_pureL rfl ?_
    refine zl_call (by first | exact want_none | exact want_L rfl) rfl (by decide) rfl (wordsR_calls (l := wH) (by decide)) ?_
    rintro _ w1 ⟨v, rfl, hO, hC⟩
    refine ⟨_, rfl, ?_⟩
    have hn := NS.words hO
    rw [wH_eq] at hn
    refine zl_pureL rfl ?_
    refine zl_call (by first | exact want_none | exact want_L rfl) rfl (by decide) rfl (rIn_calls hn (by decide) nm) ?_
    rintro _ u ⟨rfl, hu⟩
    obtain rfl := hu.symm
    refine ⟨_, rfl, ?_⟩
    refine zl_pureL rfl ?_
    refine zl_nil ?_
    refine zk_seq ?_
    refine zc_ret ?_
    refine zk_ret_block ?_
    refine zk_ret_then ?_
    refine zk_ret1 (.inr rfl) rfl rfl ⟨?_, hC⟩
    rfl
  · refine calls_zc (n := 45) (f := 79) (fn := Try.f79) Try.func79 rfl rfl (by simp) ?_
    refine zc_seq ?_
    refine zc_region ?_
    refine zl_pureL rfl ?_
    refine zl_nil ?_
    refine zk_seq ?_
    refine zc_seq ?_
    refine zc_region ?_
    refine zl_pureL rfl ?_
    refine zl_nil ?_
    refine zk_seq ?_
    iterate 2 (refine zc_seq ?_)
    refine zc_region ?_
    refine zl_pureL rfl ?_
    refine zl_nil ?_
    refine zk_seq ?_
    refine zc_block ?_
    refine zc_seq ?_
    refine zc_region ?_
    refine z_cmpB (r := false) want_none (by decide) rfl rfl rfl (iff_of_false Bool.false_ne_true (by omega)) ?_
    refine zl_pureL rfl ?_
    refine zl_nil ?_
    refine zk_seq ?_
    refine zc_false rfl ?_
    refine zc_seq ?_
    refine zc_region ?_
    refine z_cmpB (r := true) want_none (by decide) rfl rfl rfl (iff_of_true rfl (by omega)) ?_
    refine zl_pureL rfl ?_
    refine zl_nil ?_
    refine zk_seq ?_
    refine zc_true rfl ?_
    refine zc_region ?_
    refine zl_pureL rfl ?_
    refine z_catL want_none (by decide) rfl rfl (by simp only [List.length_append, List.length_cons, List.length_nil]; omega) ?_
    refine zl_pureL rfl ?_
    refine zl_nil ?_
    refine zk_norm_block ?_
    refine zk_seq ?_
    iterate 2 (refine zc_seq ?_)
    refine zc_region ?_
    refine zl_pureL rfl ?_
    refine zl_nil ?_
    refine zk_seq ?_
    refine zc_block ?_
    refine zc_seq ?_
    refine zc_region ?_
    refine z_cmpB (r := true) want_none (by decide) rfl rfl rfl (iff_of_true rfl (by omega)) ?_
    refine zl_pureL rfl ?_
    refine zl_nil ?_
    refine zk_seq ?_
    refine zc_true rfl ?_
    refine zc_seq ?_
    refine zc_region ?_
    refine zl_pureL rfl ?_
    refine zl_call (by first | exact want_none | exact want_L rfl) rfl (by decide) rfl (wordsR_calls (l := wH ++ wOl) (by decide)) ?_
    rintro _ w1 ⟨v, rfl, hO, hC⟩
    refine ⟨_, rfl, ?_⟩
    have hn := NS.words hO
    rw [wOl_eq] at hn
    refine zl_pureL rfl ?_
    refine zl_call (by first | exact want_none | exact want_L rfl) rfl (by decide) rfl (rIn_calls hn (by decide) nm) ?_
    rintro _ u ⟨rfl, hu⟩
    obtain rfl := hu.symm
    refine ⟨_, rfl, ?_⟩
    refine zl_pureL rfl ?_
    refine zl_nil ?_
    refine zk_seq ?_
    refine zc_ret ?_
    refine zk_ret_block ?_
    refine zk_ret_then ?_
    refine zk_ret1 (.inr rfl) rfl rfl ⟨?_, hC⟩
    rw [memB_app]; rfl
  · refine calls_zc (n := 45) (f := 79) (fn := Try.f79) Try.func79 rfl rfl (by simp) ?_
    refine zc_seq ?_
    refine zc_region ?_
    refine zl_pureL rfl ?_
    refine zl_nil ?_
    refine zk_seq ?_
    refine zc_seq ?_
    refine zc_region ?_
    refine zl_pureL rfl ?_
    refine zl_nil ?_
    refine zk_seq ?_
    iterate 2 (refine zc_seq ?_)
    refine zc_region ?_
    refine zl_pureL rfl ?_
    refine zl_nil ?_
    refine zk_seq ?_
    refine zc_block ?_
    refine zc_seq ?_
    refine zc_region ?_
    refine z_cmpB (r := false) want_none (by decide) rfl rfl rfl (iff_of_false Bool.false_ne_true (by omega)) ?_
    refine zl_pureL rfl ?_
    refine zl_nil ?_
    refine zk_seq ?_
    refine zc_false rfl ?_
    refine zc_seq ?_
    refine zc_region ?_
    refine z_cmpB (r := false) want_none (by decide) rfl rfl rfl (iff_of_false Bool.false_ne_true (by omega)) ?_
    refine zl_pureL rfl ?_
    refine zl_nil ?_
    refine zk_seq ?_
    refine zc_false rfl ?_
    refine zc_seq ?_
    refine zc_region ?_
    refine z_cmpB (r := true) want_none (by decide) rfl rfl rfl (iff_of_true rfl (by omega)) ?_
    refine zl_pureL rfl ?_
    refine zl_nil ?_
    refine zk_seq ?_
    refine zc_true rfl ?_
    refine zc_region ?_
    refine zl_pureL rfl ?_
    refine z_catL want_none (by decide) rfl rfl (by simp only [List.length_append, List.length_cons, List.length_nil]; omega) ?_
    refine zl_pureL rfl ?_
    refine zl_nil ?_
    refine zk_norm_block ?_
    refine zk_seq ?_
    iterate 2 (refine zc_seq ?_)
    refine zc_region ?_
    refine zl_pureL rfl ?_
    refine zl_nil ?_
    refine zk_seq ?_
    refine zc_block ?_
    refine zc_seq ?_
    refine zc_region ?_
    refine z_cmpB (r := true) want_none (by decide) rfl rfl rfl (iff_of_true rfl (by omega)) ?_
    refine zl_pureL rfl ?_
    refine zl_nil ?_
    refine zk_seq ?_
    refine zc_true rfl ?_
    refine zc_seq ?_
    refine zc_region ?_
    refine zl_pureL rfl ?_
    refine zl_call (by first | exact want_none | exact want_L rfl) rfl (by decide) rfl (wordsR_calls (l := wH ++ wBu) (by decide)) ?_
    rintro _ w1 ⟨v, rfl, hO, hC⟩
    refine ⟨_, rfl, ?_⟩
    have hn := NS.words hO
    rw [wBu_eq] at hn
    refine zl_pureL rfl ?_
    refine zl_call (by first | exact want_none | exact want_L rfl) rfl (by decide) rfl (rIn_calls hn (by decide) nm) ?_
    rintro _ u ⟨rfl, hu⟩
    obtain rfl := hu.symm
    refine ⟨_, rfl, ?_⟩
    refine zl_pureL rfl ?_
    refine zl_nil ?_
    refine zk_seq ?_
    refine zc_ret ?_
    refine zk_ret_block ?_
    refine zk_ret_then ?_
    refine zk_ret1 (.inr rfl) rfl rfl ⟨?_, hC⟩
    rw [memB_app]; rfl
  · refine calls_zc (n := 45) (f := 79) (fn := Try.f79) Try.func79 rfl rfl (by simp) ?_
    refine zc_seq ?_
    refine zc_region ?_
    refine zl_pureL rfl ?_
    refine zl_nil ?_
    refine zk_seq ?_
    refine zc_seq ?_
    refine zc_region ?_
    refine zl_pureL rfl ?_
    refine zl_nil ?_
    refine zk_seq ?_
    iterate 2 (refine zc_seq ?_)
    refine zc_region ?_
    refine zl_pureL rfl ?_
    refine zl_nil ?_
    refine zk_seq ?_
    refine zc_block ?_
    refine zc_seq ?_
    refine zc_region ?_
    refine z_cmpB (r := true) want_none (by decide) rfl rfl rfl (iff_of_true rfl (by omega)) ?_
    refine zl_pureL rfl ?_
    refine zl_nil ?_
    refine zk_seq ?_
    refine zc_true rfl ?_
    refine zc_seq ?_
    refine zc_region ?_
    refine zl_pureL rfl ?_
    refine z_cmpB (r := true) want_none (by decide) rfl rfl rfl (iff_of_true rfl (by omega)) ?_
    refine zl_pureL rfl ?_
    refine zl_call (by first | exact want_none | exact want_L rfl) rfl (by decide) rfl (wordsR_calls (l := wT) (by decide)) ?_
    rintro _ w1 ⟨v, rfl, hO, hC⟩
    refine ⟨_, rfl, ?_⟩
    have hn := NS.words hO
    rw [wT_eq] at hn
    refine zl_pureL rfl ?_
    refine zl_call (by first | exact want_none | exact want_L rfl) rfl (by decide) rfl (rIn_calls hn (by decide) nm) ?_
    rintro _ u ⟨rfl, hu⟩
    obtain rfl := hu.symm
    refine ⟨_, rfl, ?_⟩
    iterate 2 (refine zl_pureL rfl ?_)
    refine zl_nil ?_
    refine zk_seq ?_
    refine zc_ret ?_
    refine zk_ret_block ?_
    refine zk_ret_then ?_
    refine zk_ret1 (.inr rfl) rfl rfl ⟨?_, hC⟩
    rfl
end Go.Proofs.Yteeibieaapiomaa.D
/- SRefE -/
/- The document's Site: Is, Has. -/
namespace Go.Proofs.Yteeibieaapiomaa.D
open Go Go.Z Go.Proofs
set_option linter.unusedVariables false
section
variable {w w' w0 w1 w2 : World} {t : Nat} {r r' r1 : TP} {N N' : List ND} {L L' : List Nat} {S : Nat → Prop}
set_option maxRecDepth 100000 in
set_option maxHeartbeats 8000000 in
theorem rsIs_calls (h : IsT w t r N L) {v : Value} {l : List ByteArray} (hN : NS w v l) (hl : l.length ≤ 1000000) (n : Int) :
    Calls Try.prog 77 [.pointer (some ⟨t, 0, none⟩), .int .i64 n, v].toArray w fun x w' => x = .returned (.bool (isNd N n l)) ∧ Chg w w' No := by
  obtain ⟨A, c, rfl, hc⟩ := hN.form
  have hb := h.blk
  unfold isNd
  refine calls_zc (n := 32) (f := 77) (fn := Try.f77) Try.func77 rfl rfl (by simp) ?_
  refine zc_seq ?_
  refine zc_region ?_
  refine zl_pureL rfl ?_
  refine zl_nil ?_
  refine zk_seq ?_
  refine zc_seq ?_
  refine zc_region ?_
  iterate 2 (refine zl_pureL rfl ?_)
  refine z_fa want_none (by decide) rfl ?_
  refine z_loadB want_none (by decide) rfl (by assumption) (by rfl) ?_
  refine zl_pureL rfl ?_
  refine zl_call (by first | exact want_none | exact want_L rfl) rfl (by decide) rfl (rNode_calls h.doc n) ?_
  rintro _ w2 ⟨va, rfl, hA2, hX2⟩
  refine ⟨_, rfl, ?_⟩
  obtain ⟨A4, c4, rfl, _⟩ := hA2.form
  refine z_alloc (by first | exact want_none | exact want_L rfl) (by decide) (fun w3 b3 hN3 => ?_)
  have hb3 : Blk w3 b3 52 [.int .i64 0, .int .i64 0, .string ⟨#[]⟩, .slice none 0 0, .string ⟨#[]⟩, .int .i64 0, .slice none 0 0] := hN3.blk
  refine z_store (by first | exact want_none | exact want_L rfl) rfl rfl rfl (by assumption) (by first | exact Nat.le_refl _ | simp [Value.cells]) (by simp [Value.cells, Value.oneCell']) (fun w4 hU4 => ?_)
  have hb4 : Blk w4 b3 52 [.int .i64 (nodeOf N n).kind, .int .i64 (nodeOf N n).space, .string (nodeOf N n).name, .slice A4 (nodeOf N n).attrs.length c4, .string (bs (nodeOf N n).text), .int .i64 0, .slice none 0 0] := hU4.blk
  have hC4 : Chg w w4 No := (hX2.no hN3.chg).upd hU4 (by have := hN3.at_; have := hX2.size; omega)
  obtain ⟨kd, hkd⟩ : ∃ kd, kd = (nodeOf N n).kind := ⟨_, rfl⟩
  obtain ⟨sp, hsp⟩ : ∃ kd, kd = (nodeOf N n).space := ⟨_, rfl⟩
  rw [← hkd, ← hsp] at hb4
  rw [← hkd, ← hsp]
  by_cases h0 : n = 0
  · rw [decide_eq_false (fun hh => hh.1 h0)]
    refine zl_nil ?_
    refine zk_seq ?_
    refine zc_seq ?_
    refine zc_region ?_
    refine zl_pureL rfl ?_
    refine z_cmpB (r := false) want_none (by decide) rfl rfl rfl (iff_of_false Bool.false_ne_true (by omega)) ?_
    refine zl_pureL rfl ?_
    iterate 3 (refine zl_skip rfl ?_)
    iterate 2 (refine zl_pureL rfl ?_)
    iterate 3 (refine zl_skip rfl ?_)
    iterate 3 (refine zl_pureL rfl ?_)
    iterate 3 (refine zl_skip rfl ?_)
    iterate 2 (refine zl_pureL rfl ?_)
    refine zl_nil ?_
    refine zk_seq ?_
    refine zc_ret ?_
    exact zk_ret1 (.inr rfl) rfl rfl ⟨rfl, hC4⟩
  by_cases h1 : kd = 1
  rotate_left
  · rw [decide_eq_false (fun hh => h1 hh.2.1)]
    refine zl_nil ?_
    refine zk_seq ?_
    refine zc_seq ?_
    refine zc_region ?_
    refine zl_pureL rfl ?_
    refine z_cmpB (r := true) want_none (by decide) rfl rfl rfl (iff_of_true rfl (by omega)) ?_
    refine zl_pureL rfl ?_
    refine z_fa (want_L rfl) (by decide) rfl ?_
    refine z_loadB (want_L rfl) (by decide) rfl (by assumption) (by rfl) ?_
    refine z_cmpB (r := false) (want_L rfl) (by decide) rfl rfl rfl (iff_of_false Bool.false_ne_true (by omega)) ?_
    iterate 2 (refine zl_pureL rfl ?_)
    iterate 3 (refine zl_skip rfl ?_)
    iterate 3 (refine zl_pureL rfl ?_)
    iterate 3 (refine zl_skip rfl ?_)
    iterate 2 (refine zl_pureL rfl ?_)
    refine zl_nil ?_
    refine zk_seq ?_
    refine zc_ret ?_
    exact zk_ret1 (.inr rfl) rfl rfl ⟨rfl, hC4⟩
  by_cases h2 : sp = 1
  rotate_left
  · rw [decide_eq_false (fun hh => h2 hh.2.2)]
    refine zl_nil ?_
    refine zk_seq ?_
    refine zc_seq ?_
    refine zc_region ?_
    refine zl_pureL rfl ?_
    refine z_cmpB (r := true) want_none (by decide) rfl rfl rfl (iff_of_true rfl (by omega)) ?_
    refine zl_pureL rfl ?_
    refine z_fa (want_L rfl) (by decide) rfl ?_
    refine z_loadB (want_L rfl) (by decide) rfl (by assumption) (by rfl) ?_
    refine z_cmpB (r := true) (want_L rfl) (by decide) rfl rfl rfl (iff_of_true rfl (by omega)) ?_
    iterate 2 (refine zl_pureL rfl ?_)
    refine z_fa (want_L rfl) (by decide) rfl ?_
    refine z_loadB (want_L rfl) (by decide) rfl (by assumption) (by rfl) ?_
    refine z_cmpB (r := false) (want_L rfl) (by decide) rfl rfl rfl (iff_of_false Bool.false_ne_true (by omega)) ?_
    iterate 3 (refine zl_pureL rfl ?_)
    iterate 3 (refine zl_skip rfl ?_)
    iterate 2 (refine zl_pureL rfl ?_)
    refine zl_nil ?_
    refine zk_seq ?_
    refine zc_ret ?_
    exact zk_ret1 (.inr rfl) rfl rfl ⟨rfl, hC4⟩
  rw [decide_eq_true ⟨h0, h1, h2⟩]
  refine zl_nil ?_
  refine zk_seq ?_
  refine zc_seq ?_
  refine zc_region ?_
  refine zl_pureL rfl ?_
  refine z_cmpB (r := true) want_none (by decide) rfl rfl rfl (iff_of_true rfl (by omega)) ?_
  refine zl_pureL rfl ?_
  refine z_fa (want_L rfl) (by decide) rfl ?_
  refine z_loadB (want_L rfl) (by decide) rfl (by assumption) (by rfl) ?_
  refine z_cmpB (r := true) (want_L rfl) (by decide) rfl rfl rfl (iff_of_true rfl (by omega)) ?_
  iterate 2 (refine zl_pureL rfl ?_)
  refine z_fa (want_L rfl) (by decide) rfl ?_
  refine z_loadB (want_L rfl) (by decide) rfl (by assumption) (by rfl) ?_
  refine z_cmpB (r := true) (want_L rfl) (by decide) rfl rfl rfl (iff_of_true rfl (by omega)) ?_
  iterate 3 (refine zl_pureL rfl ?_)
  refine z_fa (want_L rfl) (by decide) rfl ?_
  refine z_loadB (want_L rfl) (by decide) rfl (by assumption) (by rfl) ?_
  refine zl_call (by first | exact want_none | exact want_L rfl) rfl (by decide) rfl (rIn_calls (hN.no hC4) hl _) ?_
  rintro _ u ⟨rfl, hu⟩
  obtain rfl := hu.symm
  refine ⟨_, rfl, ?_⟩
  iterate 2 (refine zl_pureL rfl ?_)
  refine zl_nil ?_
  refine zk_seq ?_
  refine zc_ret ?_
  exact zk_ret1 (.inr rfl) rfl rfl ⟨by simp, hC4⟩
theorem ln_isE (ns : List ByteArray) (l : List ByteArray) (k : Nat) (h : k + 1 ≤ ns.length) : isNd (lnN ns) ((k + 1 : Nat) : Int) l = isE ((lnE ns).getD (k + 1) en0) l := by
  have hl := lnN_len ns
  have hnd : nodeOf (lnN ns) ((k + 1 : Nat) : Int) = (lnN ns).getD (k + 1) n0 := if_pos ⟨by omega, by omega⟩
  unfold isNd isE
  rw [hnd, lnN_get _ _ h, lnE_get _ _ h]
  have : (((k + 1 : Nat) : Int) ≠ 0 ∧ (lnX ns (k + 1)).kind = 1 ∧ (lnX ns (k + 1)).space = 1) := ⟨by omega, rfl, rfl⟩
  rw [decide_eq_true this, decide_eq_true (show (k + 1 ≠ 0 ∧ (1 : Int) = 1) from ⟨by omega, rfl⟩)]
  rfl
set_option maxRecDepth 100000 in
set_option maxHeartbeats 16000000 in
theorem rsHas_calls {ns : List ByteArray} (h : IsT w t r (lnN ns) (List.range (ns.length + 1))) (hns : ns.length ≤ 1000) {v : Value} {l : List ByteArray} (hN : NS w v l) (hl : l.length ≤ 1000000) (sc : Int) (hsc : sc = 1 ∨ sc = 2 ∨ sc = 3 ∨ sc = 4) :
    Calls Try.prog 36 [.pointer (some ⟨t, 0, none⟩), .int .i64 sc, v].toArray w fun x w' => x = .returned (.bool (hasF (lnE ns) sc l ns.length)) ∧ Chg w w' No := by
  obtain ⟨A, c, rfl, hc⟩ := hN.form
  have hb := h.blk
  have hL : (List.range (ns.length + 1)).length = ns.length + 1 := List.length_range
  obtain ⟨b, o, c1, hv, _, hcc⟩ := RdS.some h.row.rd (by omega)
  rw [hL] at hv
  rw [hv] at hb
  refine calls_zc (n := 47) (f := 36) (fn := Try.f36) Try.func36 rfl rfl (by simp) ?_
  refine zc_seq ?_
  refine zc_region ?_
  refine zl_pureL rfl ?_
  refine zl_nil ?_
  refine zk_seq ?_
  iterate 2 (refine zc_seq ?_)
  refine zc_region ?_
  iterate 2 (refine zl_pureL rfl ?_)
  refine z_fa want_none (by decide) rfl ?_
  refine z_loadB want_none (by decide) rfl (by assumption) (by rfl) ?_
  refine z_len want_none (by decide) rfl ?_
  refine z_sub want_none (by decide) rfl rfl (by omega) (by omega) ?_
  refine zl_pureL rfl ?_
  refine zl_nil ?_
  refine zk_seq ?_
  refine zc_block ?_
  refine zc_loopW (ι := Nat) (fun k u => [(0, .pointer (some ⟨t, 0, none⟩)), (1, .int .i64 sc), (2, .slice A l.length c), (7, .int .i64 k)]) (fun k u => k ≤ ns.length ∧ hasF (lnE ns) sc l k = hasF (lnE ns) sc l ns.length ∧ Chg w u No) (fun k u => k) ns.length ⟨Nat.le_refl _, rfl, Chg.refl _ _⟩ ?_ ?_
  · exact ⟨rfl, rfl, rfl, get_int rfl (by omega), trivial⟩
  rintro k u ⟨hk, hf, hC⟩
  rw [← hf]
  cases k with
  | zero =>
    iterate 2 (refine zc_seq ?_)
    refine zc_region ?_
    refine zl_pureL rfl ?_
    refine z_cmpB (r := false) want_none (by decide) rfl rfl rfl (iff_of_false Bool.false_ne_true (by omega)) ?_
    refine zl_nil ?_
    refine zk_seq ?_
    refine zc_false rfl ?_
    refine zc_exit ?_
    iterate 2 (refine zk_exit_then ?_)
    refine zk_exit_block ?_
    refine zk_seq ?_
    refine zc_seq ?_
    refine zc_region ?_
    refine zl_pureL rfl ?_
    refine zl_nil ?_
    refine zk_seq ?_
    refine zc_ret ?_
    exact zk_ret1 (.inr rfl) rfl rfl ⟨rfl, hC⟩
  | succ k =>
    have hbu := hb.no hC
    have hcell : u.cell? ⟨b, o + (k + 1), none⟩ = some (.int .i64 ((k + 1 : Nat) : Int)) := by
      have h1 := hcc (k + 1) _ (intC_get _ (k + 1) (by omega))
      rw [List.getD_eq_getElem?_getD, List.getElem?_range (by omega)] at h1
      exact cell_no hC h1
    rw [hasF_succ, ← ln_isE ns l k hk, lnE_get ns (k + 1) hk]
    iterate 2 (refine zc_seq ?_)
    refine zc_region ?_
    refine zl_pureL rfl ?_
    refine z_cmpB (r := true) want_none (by decide) rfl rfl rfl (iff_of_true rfl (by omega)) ?_
    refine zl_nil ?_
    refine zk_seq ?_
    refine zc_true rfl ?_
    refine zc_skip ?_
    refine zk_seq ?_
    refine zc_seq ?_
    refine zc_block ?_
    iterate 2 (refine zc_seq ?_)
    refine zc_region ?_
    iterate 3 (refine zl_pureL rfl ?_)
    refine z_fa want_none (by decide) rfl ?_
    refine z_loadB want_none (by decide) rfl (by assumption) (by rfl) ?_
    refine zl_pureL rfl ?_
    refine z_ia want_none (by decide) rfl rfl (by omega) (by omega) ?_
    refine z_load1 (by first | exact want_none | exact want_L rfl) (by decide) rfl (cell_at hcell (by omega)) ?_
    refine zl_pureL rfl ?_
    refine zl_call (by first | exact want_none | exact want_L rfl) rfl (by decide) rfl (rsIs_calls (h.no hC) (hN.no hC) hl _) ?_
    rintro _ u1 ⟨rfl, hC1⟩
    refine ⟨_, rfl, ?_⟩
    cases hi : isNd (lnN ns) ((k + 1 : Nat) : Int) l
    rotate_left
    · rw [if_pos rfl]
      refine zl_nil ?_
      refine zk_seq ?_
      refine zc_true rfl ?_
      refine zc_seq ?_
      refine zc_region ?_
      refine zl_pureL rfl ?_
      refine zl_nil ?_
      refine zk_seq ?_
      refine zc_ret ?_
      refine zk_ret_then ?_
      refine zk_ret_block ?_
      iterate 2 (refine zk_ret_then ?_)
      refine zk_ret_block ?_
      refine zk_ret_then ?_
      exact zk_ret1 (.inr rfl) rfl rfl ⟨rfl, hC.no hC1⟩
    rw [if_neg Bool.false_ne_true]
    have hb1 := hbu.no hC1
    have hcell1 := cell_no hC1 hcell
    refine zl_nil ?_
    refine zk_seq ?_
    refine zc_false rfl ?_
    refine zc_skip ?_
    refine zk_seq ?_
    refine zc_seq ?_
    refine zc_draw [13] (fun w' => Chg u1 w' No ∧ Blk w' t 108 [.pointer (some ⟨r.pd, 0, none⟩), .pointer (some ⟨r.pm, 0, none⟩), .slice (some ⟨b, o, none⟩) (ns.length + 1) c1, .bool false]) (.take 0 (.take 1 (.take 2 (.take 3 (.take 4 (.take 5 (.take 6 (.take 7 (.take 8 (.take 9 (.take 10 (.all2 11 (.all1 12 (.last 13)) 12 (.all1 11 (.last 13)))))))))))))) (by rfl) (by kernel_rfl) (by kernel_rfl) (fun u2 hC2 _ => ⟨?_, ?_⟩)
    · exact ⟨hC2, hb1.no hC2⟩
    iterate 2 (refine zs_take rfl (zt_pure rfl ?_))
    refine zs_rdL rfl want_none rfl (by decide) (fun _ hS => r_fa rfl) ?_
    refine zs_rdL rfl want_none rfl (by decide) (fun _ hS => r_loadB rfl hS.2 (by rfl)) ?_
    iterate 2 (refine zs_take rfl (zt_pure rfl ?_))
    refine zs_rdL rfl want_none rfl (by decide) (fun _ hS => r_fa rfl) ?_
    refine zs_rdL rfl want_none rfl (by decide) (fun _ hS => r_loadB rfl hS.2 (by rfl)) ?_
    refine zs_take rfl (zt_pure rfl ?_)
    refine zs_rdL rfl want_none rfl (by decide) (fun _ hS => r_ia rfl rfl (by omega) (by omega)) ?_
    refine zs_rdL rfl (by first | exact want_none | exact want_L rfl) rfl (by decide) (fun _ hS => r_load1 rfl (cell_at (cell_no hS.1 hcell1) (by omega))) ?_
    skip
    have hl := lnN_len ns
    have hnd : nodeOf (lnN ns) ((k + 1 : Nat) : Int) = lnX ns (k + 1) := (if_pos ⟨by omega, by omega⟩ : _ = (lnN ns).getD (k + 1) n0).trans (lnN_get _ _ hk)
    have hs1 := hC1.size
    have hs2 := hC2.size
    refine zs_two ?_ ?_
    · refine zo_call rfl (by first | exact want_none | exact want_L rfl) rfl (by decide) rfl (rNode_calls ((h.no (hC.no hC1)).no hC2).doc _) ?_
      rintro _ u3 ⟨va, rfl, hA3, hC3⟩
      refine ⟨_, rfl, ⟨hC2.no hC3, (hb1.no hC2).no hC3⟩, ?_⟩
      rw [hnd]
      obtain ⟨A4, c4, rfl, _⟩ := hA3.form
      obtain ⟨c4l, hc4l⟩ : ∃ x, x = (nodeOf (lnN ns) ((k + 1 : Nat) : Int)).attrs.length := ⟨_, rfl⟩
      rw [← hc4l]
      refine zs_alloc rfl (by first | exact want_none | exact want_L rfl) (by decide) (fun u4 b8 hN4 => ?_)
      have hb4 : Blk u4 b8 52 [.int .i64 0, .int .i64 0, .string ⟨#[]⟩, .slice none 0 0, .string ⟨#[]⟩, .int .i64 0, .slice none 0 0] := hN4.blk
      refine ⟨⟨(hC2.no hC3).no hN4.chg, ((hb1.no hC2).no hC3).no hN4.chg⟩, ?_⟩
      refine zs_storeL rfl (by first | exact want_none | exact want_L rfl) rfl rfl rfl (by assumption) (by first | exact Nat.le_refl _ | simp [Value.cells]) (by simp [Value.cells, Value.oneCell']) (fun u5 hU5 => ?_)
      have hC5 : Chg u1 u5 No := ((hC2.no hC3).no hN4.chg).upd hU5 (by have := hN4.at_; have := hC3.size; omega)
      have hb5 : Blk u5 b8 52 [.int .i64 1, .int .i64 1, .string (lnM ns (k + 1)), .slice A4 c4l c4, .string (bs (lnX ns (k + 1)).text), .int .i64 0, .slice none 0 0] := hU5.blk
      refine zk_seq ?_
      refine zc_seq ?_
      refine zc_region ?_
      refine zl_pureL rfl ?_
      refine z_fa want_none (by decide) rfl ?_
      refine z_loadB want_none (by decide) rfl (by assumption) (by rfl) ?_
      refine z_fa want_none (by decide) rfl ?_
      refine z_loadB want_none (by decide) rfl (by assumption) (by rfl) ?_
      refine zl_call (by first | exact want_none | exact want_L rfl) rfl (by decide) rfl (rWall_calls sc hsc (lnM ns (k + 1))) ?_
      rintro _ u6 ⟨rfl, hC6⟩
      refine ⟨_, rfl, ?_⟩
      have hC16 : Chg w u6 No := (hC.no hC1).no (hC5.no hC6)
      cases hw : wallW sc 1 (lnM ns (k + 1))
      · rw [if_neg Bool.false_ne_true]
        refine zl_nil ?_
        refine zk_seq ?_
        refine zc_false rfl ?_
        refine zc_skip ?_
        refine zk_norm_block ?_
        refine zk_seq ?_
        refine zc_region ?_
        refine zl_pureL rfl ?_
        refine z_sub want_none (by decide) rfl rfl (by omega) (by omega) ?_
        refine zl_pureL rfl ?_
        refine zl_nil ?_
        exact zk_loopW k ⟨by omega, rfl, hC16⟩ (by omega) ⟨rfl, rfl, rfl, get_int rfl (by omega), trivial⟩
      · rw [if_pos rfl]
        refine zl_nil ?_
        refine zk_seq ?_
        refine zc_true rfl ?_
        refine zc_seq ?_
        refine zc_region ?_
        refine zl_pureL rfl ?_
        refine zl_nil ?_
        refine zk_seq ?_
        refine zc_ret ?_
        refine zk_ret_block ?_
        iterate 2 (refine zk_ret_then ?_)
        refine zk_ret_block ?_
        refine zk_ret_then ?_
        exact zk_ret1 (.inr rfl) rfl rfl ⟨rfl, hC16⟩
    · refine zo_alloc rfl (by first | exact want_none | exact want_L rfl) (by decide) (fun u4 b8 hN4 => ?_)
      have hb4 : Blk u4 b8 52 [.int .i64 0, .int .i64 0, .string ⟨#[]⟩, .slice none 0 0, .string ⟨#[]⟩, .int .i64 0, .slice none 0 0] := hN4.blk
      refine ⟨⟨hC2.no hN4.chg, (hb1.no hC2).no hN4.chg⟩, ?_⟩
      refine zs_call rfl (by first | exact want_none | exact want_L rfl) rfl (by decide) rfl (rNode_calls (((h.no (hC.no hC1)).no hC2).no hN4.chg).doc _) ?_
      rintro _ u3 ⟨va, rfl, hA3, hC3⟩
      refine ⟨_, rfl, ⟨(hC2.no hN4.chg).no hC3, ((hb1.no hC2).no hN4.chg).no hC3⟩, ?_⟩
      rw [hnd]
      obtain ⟨A4, c4, rfl, _⟩ := hA3.form
      obtain ⟨c4l, hc4l⟩ : ∃ x, x = (nodeOf (lnN ns) ((k + 1 : Nat) : Int)).attrs.length := ⟨_, rfl⟩
      rw [← hc4l]
      have hb4 := hb4.no hC3
      refine zs_storeL rfl (by first | exact want_none | exact want_L rfl) rfl rfl rfl (by assumption) (by first | exact Nat.le_refl _ | simp [Value.cells]) (by simp [Value.cells, Value.oneCell']) (fun u5 hU5 => ?_)
      have hC5 : Chg u1 u5 No := ((hC2.no hN4.chg).no hC3).upd hU5 (by have := hN4.at_; omega)
      have hb5 : Blk u5 b8 52 [.int .i64 1, .int .i64 1, .string (lnM ns (k + 1)), .slice A4 c4l c4, .string (bs (lnX ns (k + 1)).text), .int .i64 0, .slice none 0 0] := hU5.blk
      refine zk_seq ?_
      refine zc_seq ?_
      refine zc_region ?_
      refine zl_pureL rfl ?_
      refine z_fa want_none (by decide) rfl ?_
      refine z_loadB want_none (by decide) rfl (by assumption) (by rfl) ?_
      refine z_fa want_none (by decide) rfl ?_
      refine z_loadB want_none (by decide) rfl (by assumption) (by rfl) ?_
      refine zl_call (by first | exact want_none | exact want_L rfl) rfl (by decide) rfl (rWall_calls sc hsc (lnM ns (k + 1))) ?_
      rintro _ u6 ⟨rfl, hC6⟩
      refine ⟨_, rfl, ?_⟩
      have hC16 : Chg w u6 No := (hC.no hC1).no (hC5.no hC6)
      cases hw : wallW sc 1 (lnM ns (k + 1))
      · rw [if_neg Bool.false_ne_true]
        refine zl_nil ?_
        refine zk_seq ?_
        refine zc_false rfl ?_
        refine zc_skip ?_
        refine zk_norm_block ?_
        refine zk_seq ?_
        refine zc_region ?_
        refine zl_pureL rfl ?_
        refine z_sub want_none (by decide) rfl rfl (by omega) (by omega) ?_
        refine zl_pureL rfl ?_
        refine zl_nil ?_
        exact zk_loopW k ⟨by omega, rfl, hC16⟩ (by omega) ⟨rfl, rfl, rfl, get_int rfl (by omega), trivial⟩
      · rw [if_pos rfl]
        refine zl_nil ?_
        refine zk_seq ?_
        refine zc_true rfl ?_
        refine zc_seq ?_
        refine zc_region ?_
        refine zl_pureL rfl ?_
        refine zl_nil ?_
        refine zk_seq ?_
        refine zc_ret ?_
        refine zk_ret_block ?_
        iterate 2 (refine zk_ret_then ?_)
        refine zk_ret_block ?_
        refine zk_ret_then ?_
        exact zk_ret1 (.inr rfl) rfl rfl ⟨rfl, hC16⟩
end
end Go.Proofs.Yteeibieaapiomaa.D
/- SScopes -/
/- SiteScopes: the walk. -/
namespace Go.Proofs.Yteeibieaapiomaa.D
open Go Go.Z Go.Proofs
set_option linter.unusedVariables false
def nmS : List UInt8 := [112, 32, 98, 32, 105, 32, 116, 97, 98, 108, 101, 32, 116, 98, 111, 100, 121, 32, 116, 114, 32, 116, 100, 32, 116, 101, 109, 112, 108, 97, 116, 101, 32, 108, 105, 32, 117, 108, 32, 100, 100, 32, 111, 112, 116, 105, 111, 110, 32, 100, 105, 118, 32, 104, 49, 32, 98, 117, 116, 116, 111, 110, 32, 99, 97, 112, 116, 105, 111, 110, 32, 114, 112]
def nmL : List ByteArray := [sP, ⟨#[98]⟩, ⟨#[105]⟩, sTbl, sTbd, sTr, ⟨#[116, 100]⟩, sTpl, sLi, sUl, ⟨#[100, 100]⟩, ⟨#[111, 112, 116, 105, 111, 110]⟩, sDiv, ⟨#[104, 49]⟩, sBut, ⟨#[99, 97, 112, 116, 105, 111, 110]⟩, ⟨#[114, 112]⟩]
theorem nmL_eq : (wordsN [] nmS).map bs = nmL := by kernel_rfl
def nm8 (k : Nat) : ByteArray := nmL.getD k eb
set_option maxRecDepth 100000 in
theorem name8_calls {w : World} (k : Nat) (hk : k < 17) : Calls Try.prog 33 [.int .i64 k].toArray w fun e w' => e = .returned (.string (nm8 k)) ∧ Chg w w' No := by
  have hkm : ((k : Nat) : Int) % ((17 : Nat) : Int) = k := by omega
  refine calls_zc (n := 12) (f := 33) (fn := Try.f33) Try.func33 rfl rfl (by simp) ?_
  refine zc_seq ?_
  refine zc_region ?_
  refine zl_pureL rfl ?_
  refine zl_nil ?_
  refine zk_seq ?_
  refine zc_seq ?_
  refine zc_region ?_
  refine zl_call (by first | exact want_none | exact want_L rfl) rfl (by decide) rfl (wordsR_calls (l := nmS) (by decide)) ?_
  rintro _ w1 ⟨v, rfl, hO, hC⟩
  refine ⟨_, rfl, ?_⟩
  have hn := NS.words hO
  rw [nmL_eq] at hn
  obtain ⟨b, o, c, hv, _, hcc⟩ := RdS.some hn (by decide)
  have hcell := hcc k _ (nmsC_get nmL k hk)
  subst hv
  have hlen : nmL.length = 17 := rfl
  rw [hlen]
  refine zl_pureL rfl ?_
  refine zl_nil ?_
  refine zk_seq ?_
  refine zc_seq ?_
  refine zc_region ?_
  iterate 3 (refine zl_pureL rfl ?_)
  refine z_len want_none (by decide) rfl ?_
  refine zl_call (by first | exact want_none | exact want_L rfl) rfl (by decide) rfl (within8_calls (n := 17) (by decide) (by decide)) ?_
  rintro _ u ⟨rfl, hu⟩
  obtain rfl := hu.symm
  refine ⟨_, rfl, ?_⟩
  rw [hkm]
  refine z_ia want_none (by decide) rfl rfl (by omega) (by omega) ?_
  refine z_load1 (by first | exact want_none | exact want_L rfl) (by decide) rfl (cell_at hcell (by omega)) ?_
  refine zl_pureL rfl ?_
  refine zl_nil ?_
  refine zk_seq ?_
  refine zc_ret ?_
  exact zk_ret1 (.inr rfl) rfl rfl ⟨rfl, hC⟩
section
variable {w0 w w' : World} {s t : Nat} {q q' : SP} {r r' : TP} {E : List Ent} {I I' : List Bool} {m m' : ByteArray → Int} {N : List ND} {f : Bool} {S : Nat → Prop} {n1 n2 : List ByteArray}
theorem IsS.chgF (h : IsS w s q E I m N f) (hc : Chg w w' S) (hS : ∀ k, footS s q k → ¬ S k) (hpm : ¬ S q.pm) (h45 : ∀ b cells, Blk w b 89 cells → ¬ S b) : IsS w' s q E I m N f :=
  ⟨h.blk.chg hc (hS _ (.inl rfl)), h.doc.chg hc (fun k hk => hS k (.inr (.inr (.inr (.inr hk))))) h45, h.mrk.chg hc hpm, h.own.chg hc (fun k hk => hS k (.inr (.inl hk))), h.iso.chg hc (fun k hk => hS k (.inr (.inr (.inl hk)))), h.mp.chg hc (hS _ (.inr (.inr (.inr (.inl rfl)))))⟩
/-- both Sites, beside one another -/
structure Two (w0 w : World) (s : Nat) (q : SP) (I : List Bool) (m : ByteArray → Int) (t : Nat) (r : TP) (n1 n2 : List ByteArray) : Prop where
  sf : SF w0 w s q (lnE n1) I m (lnN n1) false
  tt : IsT w t r (lnN n2) (List.range (n2.length + 1))
  dis : ∀ k, footS s q k → ¬ footT t r k
  ge : ∀ k, footT t r k → w0.heap.size ≤ k
theorem Two.no (h : Two w0 w s q I m t r n1 n2) (hc : Chg w w' No) : Two w0 w' s q I m t r n1 n2 := ⟨h.sf.no hc, h.tt.no hc, h.dis, h.ge⟩
theorem Two.add1 (h : Two w0 w s q I m t r n1 n2) (hl : n1.length ≤ 1000) (x : ByteArray) :
    Calls Try.prog 23 [.pointer (some ⟨s, 0, none⟩), .int .i64 1, .string x, .slice none 0 0].toArray w fun e w' => ∃ z, e = .returned (.int .i64 z) ∧ ∃ q' I' m', Two w0 w' s q' I' m' t r (n1 ++ [x]) n2 ∧ WrS w w' s q q' := by
  refine (h.sf.addL hl x rfl).mono ?_
  rintro e w' ⟨rfl, q', I', m', _, hW, hS⟩
  refine ⟨_, rfl, q', I', m', ⟨hS, h.tt.chg hW.chg (fun k hk hf => h.dis k hf hk) (fun b cells hb => h.sf.is.noT hb (by decide) (by decide) (by decide) (by decide) (by decide) (by decide) (by decide) (by decide)), fun k hk ht => ?_, h.ge⟩, hW⟩
  rcases hW.ft k hk with h1 | h1
  · exact h.dis k h1 ht
  · have := h.tt.lt k ht; omega
theorem Two.add2 (h : Two w0 w s q I m t r n1 n2) (hW2 : WF (lnN n2)) (hl : n2.length ≤ 1000) (x : ByteArray) :
    Calls Try.prog 34 [.pointer (some ⟨t, 0, none⟩), .int .i64 1, .string x, .slice none 0 0].toArray w fun e w' => ∃ z, e = .returned (.int .i64 z) ∧ ∃ r', Two w0 w' s q I m t r' n1 (n2 ++ [x]) ∧ WrT w w' t r r' := by
  refine (rsAdd_calls h.tt hW2 hl x).mono ?_
  rintro e w' ⟨rfl, r', hT, hW⟩
  refine ⟨_, rfl, r', ⟨⟨h.sf.is.chgF hW.chg (fun k hk hf => h.dis k hk hf) (h.tt.noT h.sf.is.mrk (by decide) (by decide) (by decide) (by decide) (by decide)) (fun b cells hb => h.tt.noT hb (by decide) (by decide) (by decide) (by decide) (by decide)), h.sf.inv, h.sf.wf, h.sf.ge, h.sf.chg.trans hW.chg (fun i hi hk => by have := h.ge i hk; omega)⟩, by rw [List.length_append, List.length_singleton]; exact hT, fun k hk ht => ?_, fun k hk => ?_⟩, hW⟩
  · rcases hW.ft k ht with h1 | h1
    · exact h.dis k hk h1
    · have := h.sf.is.lt k hk; omega
  · rcases hW.ft k hk with h1 | h1
    · exact h.ge k h1
    · exact Nat.le_trans h.sf.chg.size h1
theorem Two.tape (h : Two w0 w s q I m t r n1 n2) {bt : Nat} {cs : List Value} (hb : Blk w bt 30 cs) (hge : w0.heap.size ≤ bt) (hc : Chg w w' (· = bt)) : Two w0 w' s q I m t r n1 n2 :=
  ⟨h.sf.tape hb hge hc, h.tt.chg hc (fun k hk he => h.tt.noT hb (by decide) (by decide) (by decide) (by decide) (by decide) (he ▸ hk)) (fun b cells hb' he => absurd (hb'.inj (he ▸ hb)).1 (by decide)), h.dis, h.ge⟩
theorem Tp.ref {bt : Nat} {a : Option Addr} {len cap : Nat} {zs : List Int} {at_ : Nat} (hT : Tp w0 w bt a len cap zs at_) (h : Two w0 w s q I m t r n1 n2) (hW : WrT w w' t r r') : Tp w0 w' bt a len cap zs at_ :=
  hT.oth hW.chg (h.tt.noT hT.blk (by decide) (by decide) (by decide) (by decide) (by decide)) h.ge
end
theorem isE_mono {e : Ent} {l l' : List ByteArray} (h : ∀ x ∈ l, x ∈ l') (hi : isE e l = true) : isE e l' = true := by
  unfold isE at hi ⊢
  rw [Bool.and_eq_true] at hi ⊢
  exact ⟨hi.1, memB_iff.2 (h _ (memB_iff.1 hi.2))⟩
theorem hasF_mono {E : List Ent} {sc : Int} {l l' : List ByteArray} (h : ∀ x ∈ l, x ∈ l') : ∀ k, hasF E sc l k = true → hasF E sc l' k = true
  | 0, hh => hh
  | k + 1, hh => by
    rw [hasF_succ] at hh ⊢
    by_cases h1 : isE (E.getD (k + 1) en0) l' = true
    · rw [if_pos h1]
    · rw [if_neg h1]
      rw [if_neg (fun hi => h1 (isE_mono h hi))] at hh
      split at hh
      · cases hh
      · rename_i hw
        rw [if_neg hw]
        exact hasF_mono h k hh
theorem hasF_none {E : List Ent} {sc : Int} {l : List ByteArray} (h : ∀ k, memB (E.getD (k + 1) en0).nm l = false) : ∀ k, hasF E sc l k = false
  | 0 => rfl
  | k + 1 => by
    rw [hasF_succ, if_neg (by unfold isE; rw [h k, Bool.and_false]; exact Bool.false_ne_true)]
    split
    · rfl
    · exact hasF_none h k
/-- names of no element -/
theorem ln_none {ns : List ByteArray} (h : ∀ x ∈ ns, x ∈ nmL) {l : List ByteArray} (hl : ∀ x ∈ nmL, memB x l = false) (h0 : memB ⟨#[]⟩ l = false ∨ True) (sc : Int) : hasF (lnE ns) sc l ns.length = false := by
  have key : ∀ k, k ≤ ns.length → hasF (lnE ns) sc l k = false := by
    intro k
    induction k with
    | zero => intro _; rfl
    | succ k ih =>
      intro hk
      rw [hasF_succ, lnE_get _ _ hk]
      have hm : memB (lnM ns (k + 1)) l = false := by
        refine hl _ (h _ ?_)
        unfold lnM
        rw [if_neg (by omega)]
        exact getD_mem (by omega)
      rw [if_neg (by unfold isE; dsimp only; rw [hm, Bool.and_false]; exact Bool.false_ne_true)]
      split
      · rfl
      · exact ih (by omega)
  exact key _ (Nat.le_refl _)
end Go.Proofs.Yteeibieaapiomaa.D
/- SScopes2 -/
/- SiteScopes: the walk. -/
namespace Go.Proofs.Yteeibieaapiomaa.D
open Go Go.Z Go.Proofs
set_option linter.unusedVariables false
theorem neb_run (a b : Bool) (w : World) : (binOp .neq 4 (.bool a) (.bool b)).run Try.prog w = Result.ok (.bool (!(a == b))) w := by cases a <;> cases b <;> kernel_rfl
theorem neg_run (x y : Operand) (a b : Bool) (w : World) : (eqGuard .neq 4 x y (.bool a) (.bool b)).run Try.prog w = .ok () w := by unfold eqGuard; rfl
theorem r_neb {n : Nat} {e : Env} {w : World} {d : Tmp} {ty : TypeId} {pos : String} {aft : Array Edge} {g : Option (Nat × Bool)} {x y : Operand} {a b : Bool} (hx : ev e x = some (.bool a)) (hy : ev e y = some (.bool b)) : Rd Try.prog n e w ⟨some d, .binOp .neq 4 x y 4, ty, pos, aft, g⟩ (.bool (!(a == b))) := fun A hA => by
  simp only [execOp, hA.ev hx, hA.ev hy, Sem.run_bind, neg_run, Result.andThen_ok, neb_run]
  simp [neb_run]
theorem lnN_WF {w0 w : World} {s : Nat} {q : SP} {E : List Ent} {I : List Bool} {m : ByteArray → Int} {N : List ND} {f : Bool} (h : SF w0 w s q E I m N f) : WF N := h.wf
set_option maxRecDepth 100000 in
set_option maxHeartbeats 16000000 in
theorem SiteScopes_walk (a : Option Addr) (len cap : Nat) (zs : List Int) (sco : Int) (w : World) (hrow : IsRow .i64 w a len cap zs) : Calls Try.prog 5 #[.slice a len cap, .int .i64 sco] w fun e w' => e = .returned (.bool true) ∧ RowKit.Below w.heap.size w w' := by
  show Calls Try.prog 5 [Value.slice a len cap, .int .i64 sco].toArray w _
  obtain ⟨hlc, hcm, _⟩ := hrow.le
  obtain ⟨ci, hci⟩ := Int.eq_ofNat_of_zero_le (Int.emod_nonneg sco (show ((4 : Nat) : Int) ≠ 0 by decide))
  have hci4 : ci < 4 := by have := Int.emod_lt_of_pos sco (show (0 : Int) < ((4 : Nat) : Int) by decide); omega
  refine calls_zc (n := 106) (f := 5) (fn := Try.f5) Try.func5 rfl rfl (by simp) ?_
  refine zc_seq ?_
  refine zc_region ?_
  refine zl_pureL rfl ?_
  refine zl_nil ?_
  refine zk_seq ?_
  iterate 2 (refine zc_seq ?_)
  refine zc_region ?_
  refine zl_call (by first | exact want_none | exact want_L rfl) rfl (by decide) rfl known8_calls ?_
  rintro _ w1 ⟨rfl, hC1⟩
  refine ⟨_, rfl, ?_⟩
  refine zl_pureL rfl ?_
  refine zl_nil ?_
  refine zk_seq ?_
  refine zc_false rfl ?_
  refine zc_skip ?_
  refine zk_seq ?_
  refine zc_seq ?_
  refine zc_region ?_
  refine zl_call (by first | exact want_none | exact want_L rfl) rfl (by decide) rfl (sNewL_calls hC1) ?_
  rintro _ w2 ⟨s, q, rfl, h2, _, _⟩
  refine ⟨_, rfl, ?_⟩
  skip
  refine zl_call (by first | exact want_none | exact want_L rfl) rfl (by decide) rfl rsNew_calls ?_
  rintro _ w3 ⟨t, r, rfl, hT3, hC3, hge3⟩
  refine ⟨_, rfl, ?_⟩
  have hTw : Two w w3 s q [true] (fun _ => 0) t r [] [] := ⟨h2.no hC3, hT3, fun k hk ht => by have := h2.is.lt k hk; have := hge3 k ht; omega, fun k hk => Nat.le_trans h2.chg.size (hge3 k hk)⟩
  iterate 2 (refine zl_pureL rfl ?_)
  refine zl_nil ?_
  refine zk_seq ?_
  iterate 2 (refine zc_seq ?_)
  refine zc_region ?_
  refine zl_pureL rfl ?_
  refine z_eqPN (by first | exact want_none | exact want_L rfl) (by decide) rfl rfl ?_
  refine zl_nil ?_
  refine zk_seq ?_
  refine zc_false rfl ?_
  refine zc_skip ?_
  refine zk_seq ?_
  refine zc_seq ?_
  refine zc_region ?_
  refine zl_pureL rfl ?_
  refine z_buildE #[.slice a len cap, .int .i64 0] (by first | exact want_none | exact want_L rfl) (by decide) rfl (by kernel_rfl) ?_
  refine z_box (by first | exact want_none | exact want_L rfl) (by decide) rfl (fun w4 bt hN4 => ?_)
  have hT4 : Tp w w4 bt a len cap zs 0 := ⟨hN4.blk, hrow, hTw.sf.chg.no hN4.chg, hN4.ge hTw.sf.chg, Nat.zero_le _⟩
  have hTw4 := hTw.no hN4.chg
  refine zl_pureL rfl ?_
  refine zl_nil ?_
  refine zk_seq ?_
  iterate 2 (refine zc_seq ?_)
  refine zc_region ?_
  refine zl_pureL rfl ?_
  refine zl_nil ?_
  refine zk_seq ?_
  refine zc_block ?_
  refine zc_midBX (ι := SP × List Bool × (ByteArray → Int) × TP × List ByteArray) (fun k u => Two w u s k.1 k.2.1 k.2.2.1 t k.2.2.2.1 k.2.2.2.2 k.2.2.2.2 ∧ k.2.2.2.2.length ≤ 20 ∧ ∀ x ∈ k.2.2.2.2, x ∈ nmL) (fun k => [(1, .int .i64 sco), (5, .pointer (some ⟨s, 0, none⟩)), (6, .pointer (some ⟨t, 0, none⟩))]) ?_ ?_
  · refine zc_loopW (ι := Nat × SP × List Bool × (ByteArray → Int) × TP × List ByteArray × Nat) (fun k u => [(1, .int .i64 sco), (5, .pointer (some ⟨s, 0, none⟩)), (6, .pointer (some ⟨t, 0, none⟩)), (7, .pointer (some ⟨bt, 0, none⟩)), (8, .int .i64 (k.1 : Nat))])
      (fun k u => k.1 ≤ 20 ∧ Two w u s k.2.1 k.2.2.1 k.2.2.2.1 t k.2.2.2.2.1 k.2.2.2.2.2.1 k.2.2.2.2.2.1 ∧ Tp w u bt a len cap zs k.2.2.2.2.2.2 ∧ k.2.2.2.2.2.1.length = k.1 ∧ ∀ x ∈ k.2.2.2.2.2.1, x ∈ nmL) (fun k u => 20 - k.1) (0, q, [true], (fun _ => 0), r, [], 0)
      ⟨Nat.zero_le _, hTw4, hT4, rfl, fun x hx => by cases hx⟩ ?_ ?_
    · exact ⟨rfl, rfl, rfl, rfl, rfl, trivial⟩
    rintro ⟨i, qi, I, m, ri, ns, at_⟩ u ⟨hi, hTi, hTp, hnl, hns⟩
    dsimp only at hi hTi hTp hnl hns ⊢
    by_cases hlt : i < 20 ∧ at_ < len
    · obtain ⟨hl20, hmore⟩ := hlt
      iterate 2 (refine zc_seq ?_)
      refine zc_region ?_
      refine zl_pureL rfl ?_
      refine z_cmpB (r := true) want_none (by decide) rfl rfl rfl (iff_of_true rfl (by omega)) ?_
      iterate 2 (refine zl_pureL rfl ?_)
      refine zl_call (by first | exact want_none | exact want_L rfl) rfl (by decide) rfl (more_calls hTp) ?_
      rintro _ u1 ⟨rfl, hC1⟩
      refine ⟨_, rfl, ?_⟩
      have hTi1 := hTi.no hC1
      have hTp1 := hTp.no hC1
      rw [decide_eq_true hmore]
      refine zl_pureL rfl ?_
      refine zl_nil ?_
      refine zk_seq ?_
      refine zc_true rfl ?_
      refine zc_skip ?_
      refine zk_seq ?_
      refine zc_seq ?_
      refine zc_block ?_
      refine zc_seq ?_
      refine zc_region ?_
      refine zl_pureL rfl ?_
      refine zl_call (by first | exact want_none | exact want_L rfl) rfl (by decide) rfl (next'_calls hTp1 17 (by decide) (by decide) rfl) ?_
      rintro _ u2 ⟨rfl, hTp2, hC2⟩
      refine ⟨_, rfl, ?_⟩
      have hTi2 := hTi1.tape hTp1.blk hTp1.ge hC2
      obtain ⟨at2, hat2⟩ : ∃ x, x = (nx zs len at_ 17).2 := ⟨_, rfl⟩
      obtain ⟨k, hk⟩ : ∃ x, x = (nx zs len at_ 17).1 := ⟨_, rfl⟩
      have hk17 : k < 17 := by rw [hk]; exact nx_lt _ _ _ 17 (by decide)
      rw [← hat2] at hTp2
      rw [← hk]
      refine zl_pureL rfl ?_
      refine zl_nil ?_
      refine zk_seq ?_
      refine zc_seq ?_
      refine zc_region ?_
      iterate 2 (refine zl_pureL rfl ?_)
      refine zl_call (by first | exact want_none | exact want_L rfl) rfl (by decide) rfl (name8_calls k hk17) ?_
      rintro _ u3 ⟨rfl, hC3⟩
      refine ⟨_, rfl, ?_⟩
      have hTi3 := hTi2.no hC3
      have hTp3 := hTp2.no hC3
      skip
      refine zl_call (by first | exact want_none | exact want_L rfl) rfl (by decide) rfl (hTi3.add1 (by omega) (nm8 k)) ?_
      rintro _ u4 ⟨z4, rfl, q4, I4, m4, hTi4, hW4⟩
      refine ⟨_, rfl, ?_⟩
      have hTp4 := hTp3.site hTi3.sf hW4
      refine zl_nil ?_
      refine zk_seq ?_
      refine zc_region ?_
      iterate 2 (refine zl_pureL rfl ?_)
      refine zl_call (by first | exact want_none | exact want_L rfl) rfl (by decide) rfl (name8_calls k hk17) ?_
      rintro _ u5 ⟨rfl, hC5⟩
      refine ⟨_, rfl, ?_⟩
      have hTi5 := hTi4.no hC5
      have hTp5 := hTp4.no hC5
      skip
      refine zl_call (by first | exact want_none | exact want_L rfl) rfl (by decide) rfl (hTi5.add2 hTi.sf.wf (by omega) (nm8 k)) ?_
      rintro _ u6 ⟨z6, rfl, r6, hTi6, hW6⟩
      refine ⟨_, rfl, ?_⟩
      have hTp6 := hTp5.ref hTi5 hW6
      refine zl_nil ?_
      refine zk_norm_block ?_
      refine zk_seq ?_
      refine zc_region ?_
      refine zl_pureL rfl ?_
      refine z_add want_none (by decide) rfl rfl (by omega) (by omega) ?_
      refine zl_pureL rfl ?_
      refine zl_nil ?_
      exact zk_loopW (i + 1, q4, I4, m4, r6, ns ++ [nm8 k], at2) ⟨by dsimp only; omega, hTi6, hTp6, by dsimp only; rw [List.length_append, List.length_singleton, hnl], fun x hx => (List.mem_append.1 hx).elim (hns x) (fun h => by rw [List.mem_singleton.1 h]; exact getD_mem hk17)⟩ (by dsimp only; omega) ⟨rfl, rfl, rfl, rfl, rfl, trivial⟩
    by_cases hl20 : i < 20
    · have hmore : ¬ at_ < len := fun h => hlt ⟨hl20, h⟩
      iterate 2 (refine zc_seq ?_)
      refine zc_region ?_
      refine zl_pureL rfl ?_
      refine z_cmpB (r := true) want_none (by decide) rfl rfl rfl (iff_of_true rfl (by omega)) ?_
      iterate 2 (refine zl_pureL rfl ?_)
      refine zl_call (by first | exact want_none | exact want_L rfl) rfl (by decide) rfl (more_calls hTp) ?_
      rintro _ u1 ⟨rfl, hC1⟩
      refine ⟨_, rfl, ?_⟩
      rw [decide_eq_false hmore]
      refine zl_pureL rfl ?_
      refine zl_nil ?_
      refine zk_seq ?_
      refine zc_false rfl ?_
      refine zc_exit ?_
      iterate 2 (refine zk_exit_then ?_)
      refine zk_exit_block ?_
      exact zk_midX (qi, I, m, ri, ns) ⟨hTi.no hC1, by dsimp only; omega, hns⟩ ⟨rfl, rfl, rfl, trivial⟩
    · iterate 2 (refine zc_seq ?_)
      refine zc_region ?_
      refine zl_pureL rfl ?_
      refine z_cmpB (r := false) want_none (by decide) rfl rfl rfl (iff_of_false Bool.false_ne_true (by omega)) ?_
      iterate 2 (refine zl_pureL rfl ?_)
      refine zl_skip rfl ?_
      refine zl_pureL rfl ?_
      refine zl_nil ?_
      refine zk_seq ?_
      refine zc_false rfl ?_
      refine zc_exit ?_
      iterate 2 (refine zk_exit_then ?_)
      refine zk_exit_block ?_
      exact zk_midX (qi, I, m, ri, ns) ⟨hTi, by dsimp only; omega, hns⟩ ⟨rfl, rfl, rfl, trivial⟩
  rintro ⟨qi, I, m, ri, ns⟩ u ⟨hTi, hnl, hns⟩
  dsimp only at hTi hnl hns ⊢
  refine zc_seq ?_
  refine zc_region ?_
  refine zl_pureL rfl ?_
  refine zl_call (by first | exact want_none | exact want_L rfl) rfl (by decide) rfl (within8_calls (n := 4) (by decide) (by decide)) ?_
  rintro _ v ⟨rfl, hv⟩
  obtain rfl := hv.symm
  refine ⟨_, rfl, ?_⟩
  rw [hci]
  have hsc : (1 : Int) + (ci : Nat) = 1 ∨ (1 : Int) + (ci : Nat) = 2 ∨ (1 : Int) + (ci : Nat) = 3 ∨ (1 : Int) + (ci : Nat) = 4 := by omega
  obtain ⟨sc, hsce⟩ : ∃ x, x = (1 : Int) + (ci : Nat) := ⟨_, rfl⟩
  refine z_add want_none (by decide) rfl rfl (by omega) (by omega) ?_
  refine zl_pureL rfl ?_
  refine zl_nil ?_
  refine zk_seq ?_
  iterate 2 (refine zc_seq ?_)
  refine zc_region ?_
  refine zl_pureL rfl ?_
  refine zl_nil ?_
  refine zk_seq ?_
  refine zc_block ?_
  rw [← hsce]
  rw [← hsce] at hsc
  have hEl : (lnE ns).length - 1 = ns.length := by rw [lnE_len]; rfl
  have hNl : (lnN ns).length ≤ 900000 := by rw [lnN_len]; omega
  refine zc_midBX (ι := Unit) (fun _ u' => Chg u u' No) (fun _ => [(5, .pointer (some ⟨s, 0, none⟩)), (10, .int .i64 sc)]) ?_ ?_
  · refine zc_loopW (ι := Nat) (fun k u' => [(5, .pointer (some ⟨s, 0, none⟩)), (6, .pointer (some ⟨t, 0, none⟩)), (10, .int .i64 sc), (11, .int .i64 (k : Nat))]) (fun k u' => k ≤ 17 ∧ Chg u u' No) (fun k u' => 17 - k) 0 ⟨Nat.zero_le _, Chg.refl _ _⟩ ?_ ?_
    · exact ⟨rfl, rfl, rfl, rfl, trivial⟩
    rintro k u' ⟨hk, hD0⟩
    by_cases hk17 : k < 17
    rotate_left
    · iterate 2 (refine zc_seq ?_)
      refine zc_region ?_
      refine zl_pureL rfl ?_
      refine z_cmpB (r := false) want_none (by decide) rfl rfl rfl (iff_of_false Bool.false_ne_true (by omega)) ?_
      refine zl_nil ?_
      refine zk_seq ?_
      refine zc_false rfl ?_
      refine zc_exit ?_
      iterate 2 (refine zk_exit_then ?_)
      refine zk_exit_block ?_
      exact zk_midX () hD0 ⟨rfl, rfl, trivial⟩
    obtain ⟨nm, hnm⟩ : ∃ x, x = nm8 k := ⟨_, rfl⟩
    obtain ⟨hA, hAe⟩ : ∃ x, x = hasF (lnE ns) sc [nm] ns.length := ⟨_, rfl⟩
    obtain ⟨hB, hBe⟩ : ∃ x, x = hasF (lnE ns) sc [sP] ns.length := ⟨_, rfl⟩
    obtain ⟨hC, hCe⟩ : ∃ x, x = hasF (lnE ns) sc [nm, sP] ns.length := ⟨_, rfl⟩
    have hAC : hA = true → hC = true := fun h => by rw [hCe]; exact hasF_mono (by simp) _ (hAe ▸ h)
    have hBC : hB = true → hC = true := fun h => by rw [hCe]; exact hasF_mono (by simp) _ (hBe ▸ h)
    iterate 2 (refine zc_seq ?_)
    refine zc_region ?_
    refine zl_pureL rfl ?_
    refine z_cmpB (r := true) want_none (by decide) rfl rfl rfl (iff_of_true rfl (by omega)) ?_
    refine zl_nil ?_
    refine zk_seq ?_
    refine zc_true rfl ?_
    refine zc_skip ?_
    refine zk_seq ?_
    refine zc_seq ?_
    refine zc_block ?_
    refine zc_seq ?_
    refine zc_region ?_
    iterate 3 (refine zl_pureL rfl ?_)
    refine zl_call (by first | exact want_none | exact want_L rfl) rfl (by decide) rfl (name8_calls k hk17) ?_
    rintro _ x1 ⟨rfl, hX1⟩
    refine ⟨_, rfl, ?_⟩
    have hD1 := hD0.no hX1
    skip
    rw [← hnm]
    refine z_bs1 (by first | exact want_none | exact want_L rfl) (by decide) rfl (by rfl) (by rfl) (by decide) (by decide) (fun x2 b2 hN2 => ?_)
    have hD2 := hD1.no hN2.chg
    have hn2 : NS x2 (.slice (some ⟨b2, 0, none⟩) 1 1) [nm] := RdS.new hN2 rfl (nmsC_one _)
    skip
    refine zl_call (by first | exact want_none | exact want_L rfl) rfl (by decide) rfl ((hTi.no hD2).sf.hasZ hNl hn2 (by simp) sc (z := hA) (by rw [hEl]; exact hAe)) ?_
    rintro _ x3 ⟨rfl, hX3⟩
    refine ⟨_, rfl, ?_⟩
    have hD3 := hD2.no hX3
    iterate 3 (refine zl_pureL rfl ?_)
    refine zl_call (by first | exact want_none | exact want_L rfl) rfl (by decide) rfl (name8_calls k hk17) ?_
    rintro _ x4 ⟨rfl, hX4⟩
    refine ⟨_, rfl, ?_⟩
    have hD4 := hD3.no hX4
    skip
    rw [← hnm]
    refine z_bs1 (by first | exact want_none | exact want_L rfl) (by decide) rfl (by rfl) (by rfl) (by decide) (by decide) (fun x5 b5 hN5 => ?_)
    have hD5 := hD4.no hN5.chg
    have hn5 : NS x5 (.slice (some ⟨b5, 0, none⟩) 1 1) [nm] := RdS.new hN5 rfl (nmsC_one _)
    skip
    refine zl_call (by first | exact want_none | exact want_L rfl) rfl (by decide) rfl (rsHas_calls (hTi.no hD5).tt (by omega) hn5 (by simp) sc hsc) ?_
    rintro _ x6 ⟨rfl, hX6⟩
    refine ⟨_, rfl, ?_⟩
    have hD6 := hD5.no hX6
    rw [← hAe]
    refine zl_run (by first | exact want_none | exact want_L rfl) rfl (by decide) (r_neb rfl rfl) ?_
    rw [beq_self_eq_true]
    iterate 4 (refine zl_pureL rfl ?_)
    refine zl_call (by first | exact want_none | exact want_L rfl) rfl (by decide) rfl (name8_calls k hk17) ?_
    rintro _ x7 ⟨rfl, hX7⟩
    refine ⟨_, rfl, ?_⟩
    have hD7 := hD6.no hX7
    skip
    rw [← hnm]
    refine z_bsE (nmsC [nm, sP]) (by first | exact want_none | exact want_L rfl) (by decide) rfl (by decide) (by decide) (by kernel_rfl) (fun x8 b8 hN8 => ?_)
    have hD8 := hD7.no hN8.chg
    have hn8 : NS x8 (.slice (some ⟨b8, 0, none⟩) 2 2) [nm, sP] := RdS.new hN8 rfl (nmsC_one _)
    skip
    refine zl_call (by first | exact want_none | exact want_L rfl) rfl (by decide) rfl ((hTi.no hD8).sf.hasZ hNl hn8 (by simp) sc (z := hC) (by rw [hEl]; exact hCe)) ?_
    rintro _ x9 ⟨rfl, hX9⟩
    refine ⟨_, rfl, ?_⟩
    have hD9 := hD8.no hX9
    iterate 3 (refine zl_pureL rfl ?_)
    refine zl_call (by first | exact want_none | exact want_L rfl) rfl (by decide) rfl (name8_calls k hk17) ?_
    rintro _ x10 ⟨rfl, hX10⟩
    refine ⟨_, rfl, ?_⟩
    have hD10 := hD9.no hX10
    skip
    rw [← hnm]
    refine z_bs1 (by first | exact want_none | exact want_L rfl) (by decide) rfl (by rfl) (by rfl) (by decide) (by decide) (fun x11 b11 hN11 => ?_)
    have hD11 := hD10.no hN11.chg
    have hn11 : NS x11 (.slice (some ⟨b11, 0, none⟩) 1 1) [nm] := RdS.new hN11 rfl (nmsC_one _)
    skip
    refine zl_call (by first | exact want_none | exact want_L rfl) rfl (by decide) rfl (rsHas_calls (hTi.no hD11).tt (by omega) hn11 (by simp) sc hsc) ?_
    rintro _ x12 ⟨rfl, hX12⟩
    refine ⟨_, rfl, ?_⟩
    have hD12 := hD11.no hX12
    rw [← hAe]
    cases hA
    rotate_left
    · rw [hAC rfl]
      iterate 3 (refine zl_pureL rfl ?_)
      iterate 2 (refine zl_skip rfl ?_)
      iterate 5 (refine zl_pureL rfl ?_)
      iterate 3 (refine zl_skip rfl ?_)
      refine zl_pureL rfl ?_
      refine zl_run (by first | exact want_none | exact want_L rfl) rfl (by decide) (r_neb rfl rfl) ?_
      rw [beq_self_eq_true]
      refine zl_pureL rfl ?_
      refine zl_nil ?_
      refine zk_seq ?_
      refine zc_false rfl ?_
      refine zc_skip ?_
      refine zk_norm_block ?_
      refine zk_seq ?_
      refine zc_region ?_
      refine zl_pureL rfl ?_
      refine z_add want_none (by decide) rfl rfl (by omega) (by omega) ?_
      refine zl_pureL rfl ?_
      refine zl_nil ?_
      exact zk_loopW (k + 1) ⟨by omega, hD12⟩ (by omega) ⟨rfl, rfl, rfl, rfl, trivial⟩
    iterate 3 (refine zl_pureL rfl ?_)
    refine z_bs1 (by first | exact want_none | exact want_L rfl) (by decide) rfl (by rfl) (by rfl) (by decide) (by decide) (fun x13 b13 hN13 => ?_)
    have hD13 := hD12.no hN13.chg
    have hn13 : NS x13 (.slice (some ⟨b13, 0, none⟩) 1 1) [sP] := RdS.new hN13 rfl (nmsC_one _)
    skip
    refine zl_call (by first | exact want_none | exact want_L rfl) rfl (by decide) rfl (rsHas_calls (hTi.no hD13).tt (by omega) hn13 (by simp) sc hsc) ?_
    rintro _ x14 ⟨rfl, hX14⟩
    refine ⟨_, rfl, ?_⟩
    have hD14 := hD13.no hX14
    rw [← hBe]
    cases hB
    rotate_left
    · rw [hBC rfl]
      iterate 5 (refine zl_pureL rfl ?_)
      iterate 3 (refine zl_skip rfl ?_)
      refine zl_pureL rfl ?_
      refine zl_run (by first | exact want_none | exact want_L rfl) rfl (by decide) (r_neb rfl rfl) ?_
      rw [beq_self_eq_true]
      refine zl_pureL rfl ?_
      refine zl_nil ?_
      refine zk_seq ?_
      refine zc_false rfl ?_
      refine zc_skip ?_
      refine zk_norm_block ?_
      refine zk_seq ?_
      refine zc_region ?_
      refine zl_pureL rfl ?_
      refine z_add want_none (by decide) rfl rfl (by omega) (by omega) ?_
      refine zl_pureL rfl ?_
      refine zl_nil ?_
      exact zk_loopW (k + 1) ⟨by omega, hD14⟩ (by omega) ⟨rfl, rfl, rfl, rfl, trivial⟩
    iterate 5 (refine zl_pureL rfl ?_)
    refine zl_call (by first | exact want_none | exact want_L rfl) rfl (by decide) rfl (name8_calls k hk17) ?_
    rintro _ x15 ⟨rfl, hX15⟩
    refine ⟨_, rfl, ?_⟩
    have hD15 := hD14.no hX15
    skip
    rw [← hnm]
    refine z_bsE (nmsC [nm, sP]) (by first | exact want_none | exact want_L rfl) (by decide) rfl (by decide) (by decide) (by kernel_rfl) (fun x16 b16 hN16 => ?_)
    have hD16 := hD15.no hN16.chg
    have hn16 : NS x16 (.slice (some ⟨b16, 0, none⟩) 2 2) [nm, sP] := RdS.new hN16 rfl (nmsC_one _)
    skip
    refine zl_call (by first | exact want_none | exact want_L rfl) rfl (by decide) rfl (rsHas_calls (hTi.no hD16).tt (by omega) hn16 (by simp) sc hsc) ?_
    rintro _ x17 ⟨rfl, hX17⟩
    refine ⟨_, rfl, ?_⟩
    have hD17 := hD16.no hX17
    rw [← hCe]
    refine zl_pureL rfl ?_
    refine zl_run (by first | exact want_none | exact want_L rfl) rfl (by decide) (r_neb rfl rfl) ?_
    rw [beq_self_eq_true]
    refine zl_pureL rfl ?_
    refine zl_nil ?_
    refine zk_seq ?_
    refine zc_false rfl ?_
    refine zc_skip ?_
    refine zk_norm_block ?_
    refine zk_seq ?_
    refine zc_region ?_
    refine zl_pureL rfl ?_
    refine z_add want_none (by decide) rfl rfl (by omega) (by omega) ?_
    refine zl_pureL rfl ?_
    refine zl_nil ?_
    exact zk_loopW (k + 1) ⟨by omega, hD17⟩ (by omega) ⟨rfl, rfl, rfl, rfl, trivial⟩
  rintro _ u' hD0
  have f0 : hasF (lnE ns) sc [] ns.length = false := ln_none hns (by decide) (.inr trivial) sc
  have f1 : hasF (lnE ns) sc [eb] ns.length = false := ln_none hns (by decide) (.inr trivial) sc
  have f2 : hasF (lnE ns) sc [⟨#[110, 111, 115, 117, 99, 104]⟩] ns.length = false := ln_none hns (by decide) (.inr trivial) sc
  refine zc_seq ?_
  refine zc_region ?_
  iterate 2 (refine zl_pureL rfl ?_)
  refine zl_call (by first | exact want_none | exact want_L rfl) rfl (by decide) rfl ((hTi.no hD0).sf.hasZ hNl (v := .slice none 0 0) (l := []) RdS.nil (by simp) sc (z := false) (by rw [hEl]; exact f0.symm)) ?_
  rintro _ x1 ⟨rfl, hX1⟩
  refine ⟨_, rfl, ?_⟩
  have hD1 := hD0.no hX1
  iterate 4 (refine zl_pureL rfl ?_)
  refine z_bs1 (by first | exact want_none | exact want_L rfl) (by decide) rfl (by rfl) (by rfl) (by decide) (by decide) (fun x2 b2 hN2 => ?_)
  have hD2 := hD1.no hN2.chg
  have hn2 : NS x2 (.slice (some ⟨b2, 0, none⟩) 1 1) [eb] := RdS.new hN2 rfl (nmsC_one _)
  skip
  refine zl_call (by first | exact want_none | exact want_L rfl) rfl (by decide) rfl ((hTi.no hD2).sf.hasZ hNl hn2 (by simp) sc (z := false) (by rw [hEl]; exact f1.symm)) ?_
  rintro _ x3 ⟨rfl, hX3⟩
  refine ⟨_, rfl, ?_⟩
  have hD3 := hD2.no hX3
  iterate 5 (refine zl_pureL rfl ?_)
  refine z_bs1 (by first | exact want_none | exact want_L rfl) (by decide) rfl (by rfl) (by rfl) (by decide) (by decide) (fun x4 b4 hN4 => ?_)
  have hD4 := hD3.no hN4.chg
  have hn4 : NS x4 (.slice (some ⟨b4, 0, none⟩) 1 1) [⟨#[110, 111, 115, 117, 99, 104]⟩] := RdS.new hN4 rfl (nmsC_one _)
  skip
  refine zl_call (by first | exact want_none | exact want_L rfl) rfl (by decide) rfl ((hTi.no hD4).sf.hasZ hNl hn4 (by simp) sc (z := false) (by rw [hEl]; exact f2.symm)) ?_
  rintro _ x5 ⟨rfl, hX5⟩
  refine ⟨_, rfl, ?_⟩
  have hE := (hTi.no (hD4.no hX5)).sf.chg
  iterate 3 (refine zl_pureL rfl ?_)
  refine zl_nil ?_
  refine zk_seq ?_
  refine zc_ret ?_
  exact zk_ret1 (.inr rfl) rfl rfl ⟨rfl, hE.below⟩
end Go.Proofs.Yteeibieaapiomaa.D
