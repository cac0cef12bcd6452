import Derived.Test.YtbcmiijollpgeaaPLine
/- A line that is not blank; an item. -/
namespace Go.Proofs.Ytbcmiijollpgeaa.T
open Go Go.Z Go.Proofs
set_option linter.unusedVariables false
theorem AT.last : ∀ t : AT, 0 < t.len → ∃ (t0 : AT) (x : Hd) (k : AT), t = t0.snoc x k
  | .nil, h => by simp [AT.len] at h
  | .cons x k .nil, _ => ⟨.nil, x, k, rfl⟩
  | .cons x k (.cons y k' r), _ => by
    obtain ⟨t0, z, kz, e⟩ := AT.last (.cons y k' r) (by simp [AT.len])
    exact ⟨.cons x k t0, z, kz, by rw [e]; rfl⟩
theorem AT.plain_last : ∀ {t : AT} {x : Hd} {k : AT}, (t.snoc x k).plain → x.text ∈ lTx0
  | .nil, x, k, h => h.1
  | .cons y k' r, x, k, h => AT.plain_last (t := r) h.2
theorem AT.ok_last : ∀ {t : AT} {x : Hd} {k : AT}, (t.snoc x k).ok → t.ok ∧ HdOk x ∧ k.ok
  | .nil, x, k, h => ⟨trivial, h.1, h.2.1⟩
  | .cons y k' r, x, k, h => by
    obtain ⟨h1, h2, h3⟩ := AT.ok_last (t := r) h.2.2
    exact ⟨⟨h.1, h.2.1, h1⟩, h2, h3⟩
theorem RowsOk.last {w : World} {o : Nat → Prop} : ∀ {t : AT} {x : Hd} {k : AT} {ms : List MA}, RowsOk w o (t.snoc x k) ms → ∃ q m, ms = q ++ [m] ∧ RowsOk w o t q ∧ HO w m x ∧ TreeOk w o m.kids k
  | .nil, x, k, ms, h => by
    obtain ⟨m, q, h1, h2, h3, h4⟩ := h
    have : q = [] := h4
    subst this
    exact ⟨[], m, h1, rfl, h2, h3⟩
  | .cons y k' r, x, k, ms, h => by
    obtain ⟨m, q, h1, h2, h3, h4⟩ := h
    obtain ⟨q', m', h5, h6, h7, h8⟩ := RowsOk.last (t := r) h4
    exact ⟨m :: q', m', by rw [h1, h5]; rfl, ⟨m, q', rfl, h2, h3, h6⟩, h7, h8⟩
theorem lay_last (q : List MA) (m : MA) (tx : List UInt8) : Z.lay (encM (q ++ [m])) (q.length * 5 + 2) [.string (bs tx)] = encM (q ++ [{ m with text := tx }]) := by
  unfold Z.lay
  rw [encM_app, encM_app]
  have hq := encM_len q
  have e1 : (encM q ++ encM [m]).take (q.length * 5 + 2) = encM q ++ (encM [m]).take 2 := by
    rw [List.take_append, hq]
    rw [List.take_of_length_le (by rw [hq]; omega)]
    congr 2; omega
  have e2 : (encM q ++ encM [m]).drop (q.length * 5 + 2 + [Value.string (bs tx)].length) = (encM [m]).drop 3 := by
    rw [List.drop_append, hq]
    rw [List.drop_of_length_le (by rw [hq]; simp only [List.length_cons, List.length_nil]; omega)]
    simp only [List.nil_append, List.length_cons, List.length_nil]
    congr 1; omega
  rw [e1, e2]
  simp [encM]
/-- the last one's text is another one -/
theorem Out.retext {B : Nat} {w : World} {vo : Value} {t : AT} {x : Hd} {k : AT} (h : Out B w vo (t.snoc x k)) : ∃ b c cells, vo = .slice (some ⟨b, 0, none⟩) (t.len + 1) c ∧ Blk w b 38 cells ∧ t.len * 5 + 3 ≤ cells.length ∧
    w.cell? ⟨b, t.len * 5, none⟩ = some (.string (bs x.name)) ∧ w.cell? ⟨b, t.len * 5 + 2, none⟩ = some (.string (bs x.text)) ∧ B ≤ b ∧
    ∀ tx w', Upd w w' b 38 (Z.lay cells (t.len * 5 + 2) [.string (bs tx)]) → Out B w' vo (t.snoc { x with text := tx } k) := by
  obtain ⟨ms, h1, h2, h3⟩ := h
  have hlen := Out.len B h3
  rw [AT.snoc_len] at hlen
  obtain ⟨q, m, rfl, h6, h7, h8⟩ := RowsOk.last h3
  have hql : q.length = t.len := by rw [List.length_append] at hlen; simpa using hlen
  obtain ⟨b, c, junk, hv, hc1, _, hb, hbl⟩ : ∃ b cap junk, vo = .slice (some ⟨b, 0, none⟩) (q ++ [m]).length cap ∧ (q ++ [m]).length ≤ cap ∧ cap ≤ maxLen ∧ Blk w b 38 (encM (q ++ [m]) ++ junk) ∧ (encM (q ++ [m]) ++ junk).length = cap * 5 := by
    rcases h1.cases.2 with ⟨_, h0, _⟩ | h0
    · simp at h0
    · exact h0
  subst hv
  have hel := encM_len (q ++ [m])
  rw [List.length_append] at hel
  obtain ⟨cells, hbc, hlc, hcc, hup⟩ := Own.lay (o := t.len * 5 + 2) (vs := [.string (bs [])]) h1 (by rw [hel]; simp only [List.length_cons, List.length_nil]; omega) (by simp [Value.oneCell'])
  have hinj := hb.inj hbc
  have hce : cells = encM (q ++ [m]) ++ junk := by have := hinj.2; exact this.symm
  refine ⟨b, c, cells, by rw [hlen], hbc, by simpa using hlc, ?_, ?_, h2 b rfl, fun tx w' hU => ?_⟩
  · rw [hbc.cell]
    refine hcc _ _ ?_
    rw [encM_app, List.getElem?_append_right (by rw [encM_len]; omega), encM_len, hql]
    simp [encM, h7.1]
  · rw [hbc.cell]
    refine hcc _ _ ?_
    rw [encM_app, List.getElem?_append_right (by rw [encM_len]; omega), encM_len, hql]
    simp [encM, h7.2.2.1]
  · obtain ⟨cells2, hbc2, _, _, hup2⟩ := Own.lay (o := t.len * 5 + 2) (vs := [.string (bs tx)]) h1 (by rw [hel]; simp only [List.length_cons, List.length_nil]; omega) (by simp [Value.oneCell'])
    have hc2 : cells = cells2 := (hbc.inj hbc2).2
    subst hc2
    have hO := hup2 w' hU
    rw [← hql, lay_last] at hO
    have hne : ∀ b' cs, Blk w b' 38 cs → (B ≤ b' ∧ (Value.slice (some ⟨b, 0, none⟩) (q ++ [m]).length c).ownBlock ≠ some b') → ¬ b' = b := fun b' cs _ hq he => hq.2 (by rw [he]; rfl)
    have h6' := RowsOk.chg hU.chg hne (fun b' cs hb' he => hb'.ne hb (by decide) he) _ _ h6
    have h7a : AtS w' m.attrs x.attrs := RdS.chg h7.2.1 hU.chg (fun b' cs hb' he => hb'.ne hb (by decide) he)
    have h8' := h8.chg hU.chg hne (fun b' cs hb' he => hb'.ne hb (by decide) he)
    refine ⟨q ++ [{ m with text := tx }], by simpa using hO, h2, RowsOk.snoc (m := { m with text := tx }) (x := { x with text := tx }) ⟨h7.1, h7a, rfl, h7.2.2.2⟩ h8' _ _ h6'⟩
theorem tx_x : ∀ x ∈ lTx0, x ++ [120] ∈ lTxs := by decide
set_option maxHeartbeats 4000000 in
theorem full_calls {w : World} {B bt : Nat} (hT0 : Tp w B bt) : Calls Try.prog 34 [.pointer (some ⟨bt, 0, none⟩)].toArray w fun e w' => ∃ vo t, e = .returned vo ∧ Out w.heap.size w' vo t ∧ t.ok ∧ t.size ≤ 1093 ∧ Tp w' B bt ∧ Chg w w' (· = bt) := by
  refine calls_zc (n := 33) (f := 34) (fn := Try.f34) Try.func34 rfl rfl (by simp) ?_
  refine zc_seq ?_
  refine zc_region ?_
  refine zl_pureL rfl ?_
  refine zl_nil ?_
  refine zk_seq ?_
  refine zc_seq ?_
  refine zc_region ?_
  refine zl_pureL rfl ?_
  refine zl_call (by first | exact want_none | exact want_L rfl) rfl (by decide) rfl (line_calls 5 (by decide) [] hT0 RdS.nil (by decide) (lv := 1) (by decide)) ?_
  rintro _ w1 ⟨vo, t, rfl, hO, hok, hl, hsz, hT, hC⟩
  refine ⟨_, rfl, ?_⟩
  have hz5 : lnZ 5 = 1092 := by decide
  rw [hz5] at hsz
  have hws := hC.size
  obtain ⟨t0, x, k, rfl⟩ := t.last hl
  have hpl := AT.plain_last hok.2
  obtain ⟨hk0, hkx, hkk⟩ := AT.ok_last hok.1
  obtain ⟨b, c, cells, rfl, hb, hlen, hc0, hc2, hBb, hup⟩ := hO.retext
  have hls := (t0.snoc x k).len_size
  rw [AT.snoc_len] at hls
  have e0 : (((t0.len + 1 : Nat) : Int) - 1).toNat = t0.len := by omega
  refine zl_pureL rfl ?_
  refine zl_nil ?_
  refine zk_seq ?_
  iterate 2 (refine zc_seq ?_)
  refine zc_region ?_
  iterate 2 (refine zl_pureL rfl ?_)
  refine z_len want_none (by decide) rfl ?_
  refine z_sub want_none (by decide) rfl rfl (by omega) (by omega) ?_
  refine z_ia want_none (by decide) rfl rfl (by omega) (by omega) ?_
  refine z_fa want_none (by decide) rfl ?_
  refine z_load1 (by first | exact want_none | exact want_L rfl) (by decide) rfl (cell_at hc0 (by omega)) ?_
  refine z_eqL (r := []) (by first | exact want_none | exact want_L rfl) (by decide) rfl rfl (fun hc => ?_) (fun hc => ?_)
  · refine zl_nil ?_
    refine zk_seq ?_
    refine zc_true rfl ?_
    refine zc_seq ?_
    refine zc_region ?_
    iterate 2 (refine zl_pureL rfl ?_)
    refine z_len want_none (by decide) rfl ?_
    refine z_sub want_none (by decide) rfl rfl (by omega) (by omega) ?_
    iterate 2 (refine zl_pureL rfl ?_)
    refine z_len want_none (by decide) rfl ?_
    refine z_sub want_none (by decide) rfl rfl (by omega) (by omega) ?_
    refine z_ia want_none (by decide) rfl rfl (by omega) (by omega) ?_
    refine z_fa want_none (by decide) rfl ?_
    refine z_load1 (by first | exact want_none | exact want_L rfl) (by decide) rfl (cell_at hc2 (by omega)) ?_
    have htl := tx_len _ hkx.2.2.2
    refine z_catL want_none (by decide) rfl rfl (by simp only [List.length_append, List.length_cons, List.length_nil]; omega) ?_
    refine z_ia want_none (by decide) rfl rfl (by omega) (by omega) ?_
    refine z_fa want_none (by decide) rfl ?_
    refine z_store (by first | exact want_none | exact want_L rfl) rfl rfl (by rfl) hb (by omega) (by simp [Value.cells, Value.oneCell']) (fun u2 hU2 => ?_)
    have e3 : 0 + (((t0.len + 1 : Nat) : Int) - 1).toNat * 5 + 2 = t0.len * 5 + 2 := by omega
    rw [e3] at hU2
    have hO2 := hup (x.text ++ [120]) u2 hU2
    have hkx2 : HdOk { x with text := x.text ++ [120] } := ⟨hkx.1, hkx.2.1, hkx.2.2.1, tx_x _ hpl⟩
    refine zl_nil ?_
    refine zk_seq ?_
    refine zc_seq ?_
    refine zc_region ?_
    iterate 2 (refine zl_pureL rfl ?_)
    refine zl_nil ?_
    refine zk_seq ?_
    refine zc_ret ?_
    refine zk_ret_then ?_
    refine zk_ret1 (.inr rfl) rfl rfl ⟨_, _, rfl, hO2, AT.snoc_ok hk0 hkx2 hkk, by rw [AT.snoc_size] at hsz ⊢; omega, ?_, ?_⟩
    · exact hT.oth hU2.chg (fun he => by obtain ⟨cs, h30⟩ := hT.blk; exact h30.ne hb (by decide) he) (fun k _ hk => by have := hT0.lt; have := hT0.ge; omega)
    · exact hC.trans hU2.chg (fun k _ hk => by omega)
  · refine zl_nil ?_
    refine zk_seq ?_
    refine zc_false rfl ?_
    refine zc_skip ?_
    refine zk_seq ?_
    refine zc_seq ?_
    refine zc_region ?_
    refine zl_pureL rfl ?_
    refine z_buildE #[.string (bs []), nS, .string (bs [120]), nS, nS] (by first | exact want_none | exact want_L rfl) (by decide) rfl (by kernel_rfl) ?_
    refine z_bsE (encM [⟨[], nS, [120], nS, nS⟩]) (by first | exact want_none | exact want_L rfl) (by decide) rfl (by decide) (by decide) (by kernel_rfl) (fun p1 pb hP => ?_)
    skip
    refine z_push (h := ⟨[], [], [120]⟩) (k := .nil) (m := ⟨[], nS, [120], nS, nS⟩) (by first | exact want_none | exact want_L rfl) (by decide) rfl rfl hO ⟨rfl, AtS.nil _, rfl, isSl_nil⟩ TreeOk.nil hws hP (by rw [AT.snoc_len]; omega) (fun p2 q2 hP2 hPC => ?_)
    have hd : HdOk ⟨[], [], [120]⟩ := ⟨by decide, by simp, by simp, by decide⟩
    refine zl_pureL rfl ?_
    refine zl_nil ?_
    refine zk_seq ?_
    refine zc_ret ?_
    exact zk_ret1 (.inr rfl) rfl rfl ⟨_, _, rfl, hP2, AT.snoc_ok hok.1 hd trivial, by rw [AT.snoc_size]; simp only [AT.size]; omega, hT.own hO (by have := hT0.lt; have := hT0.ge; omega) hPC, Chg.own hC hO (Nat.le_refl _) hPC⟩
/-- what stands at a level may be so many arts -/
def blZ : Nat → Nat
  | 0 => 4000
  | d + 1 => 13 * blZ d
/-- blocks, where d levels lie below -/
def BlkC (lv d : Nat) : Prop := ∀ {w : World} {B bt : Nat} {li : Int}, Tp w B bt → li = (lv : Int) → Calls Try.prog 21 [.pointer (some ⟨bt, 0, none⟩), .int .i64 li].toArray w fun e w' => ∃ vo t, e = .returned vo ∧ Out w.heap.size w' vo t ∧ t.ok ∧ t.size ≤ blZ d ∧ Tp w' B bt ∧ Chg w w' (· = bt) ∧ 0 < t.len
def ItemC (lv d : Nat) : Prop := ∀ {w : World} {B bt : Nat} {li : Int}, Tp w B bt → li = (lv : Int) → Calls Try.prog 35 [.pointer (some ⟨bt, 0, none⟩), .int .i64 li].toArray w fun e w' => ∃ vo t, e = .returned vo ∧ Out w.heap.size w' vo t ∧ t.ok ∧ t.size ≤ blZ d ∧ Tp w' B bt ∧ Chg w w' (· = bt)
theorem blZ_ge : ∀ d, 4000 ≤ blZ d
  | 0 => Nat.le_refl _
  | d + 1 => by have := blZ_ge d; simp only [blZ]; omega
theorem item_calls {lv d : Nat} (hl : lv ≤ 100) (h : BlkC (lv + 1) d) : ItemC lv d := by
  intro w B bt li hT0 hli
  have hz := blZ_ge d
  refine calls_zc (n := 17) (f := 35) (fn := Try.f35) Try.func35 rfl rfl (by simp) ?_
  refine zc_seq ?_
  refine zc_region ?_
  refine zl_pureL rfl ?_
  refine zl_nil ?_
  refine zk_seq ?_
  iterate 2 (refine zc_seq ?_)
  refine zc_region ?_
  refine zl_pureL rfl ?_
  refine zl_call (by first | exact want_none | exact want_L rfl) rfl (by decide) rfl (next_calls hT0 4 (by decide) (by decide) rfl) ?_
  rintro _ w1 ⟨⟨k, hk, rfl⟩, hT, hC⟩
  refine ⟨_, rfl, ?_⟩
  have hws := hC.size
  by_cases h0 : k = 0
  · subst h0
    refine zl_nil ?_
    refine zk_seq ?_
    refine zc_block ?_
    refine zc_seq ?_
    refine zc_region ?_
    refine z_cmpB (r := true) want_none (by decide) rfl rfl rfl (iff_of_true rfl (by omega)) ?_
    refine zl_pureL rfl ?_
    refine zl_nil ?_
    refine zk_seq ?_
    refine zc_true rfl ?_
    refine zc_seq ?_
    refine zc_region ?_
    refine zl_pureL rfl ?_
    refine zl_nil ?_
    refine zk_seq ?_
    refine zc_ret ?_
    refine zk_ret_block ?_
    refine zk_ret_then ?_
    exact zk_ret1 (.inr rfl) rfl rfl ⟨_, .nil, rfl, Out.nil, trivial, by simp [AT.size], hT, hC⟩
  by_cases h1 : k = 1
  · subst h1
    refine zl_nil ?_
    refine zk_seq ?_
    refine zc_block ?_
    refine zc_seq ?_
    refine zc_region ?_
    refine z_cmpB (r := false) want_none (by decide) rfl rfl rfl (iff_of_false Bool.false_ne_true (by omega)) ?_
    refine zl_pureL rfl ?_
    refine zl_nil ?_
    refine zk_seq ?_
    refine zc_false rfl ?_
    refine zc_seq ?_
    refine zc_region ?_
    refine z_cmpB (r := true) want_none (by decide) rfl rfl rfl (iff_of_true rfl (by omega)) ?_
    refine zl_pureL rfl ?_
    refine zl_nil ?_
    refine zk_seq ?_
    refine zc_true rfl ?_
    refine zc_seq ?_
    refine zc_region ?_
    iterate 2 (refine zl_pureL rfl ?_)
    refine z_add want_none (by decide) rfl rfl (by omega) (by omega) ?_
    refine zl_call (by first | exact want_none | exact want_L rfl) rfl (by decide) rfl (h (li := li + 1) hT (by omega)) ?_
    rintro _ w2 ⟨vo, t, rfl, hO, hok, hsz, hT2, hC2, _⟩
    refine ⟨_, rfl, ?_⟩
    refine zl_pureL rfl ?_
    refine zl_nil ?_
    refine zk_seq ?_
    refine zc_ret ?_
    refine zk_ret_block ?_
    refine zk_ret_then ?_
    exact zk_ret1 (.inr rfl) rfl rfl ⟨_, t, rfl, hO.less hws, hok, hsz, hT2, hC.trans hC2 (fun _ _ h => h)⟩
  · refine zl_nil ?_
    refine zk_seq ?_
    refine zc_block ?_
    refine zc_seq ?_
    refine zc_region ?_
    refine z_cmpB (r := false) want_none (by decide) rfl rfl rfl (iff_of_false Bool.false_ne_true (by omega)) ?_
    refine zl_pureL rfl ?_
    refine zl_nil ?_
    refine zk_seq ?_
    refine zc_false rfl ?_
    refine zc_seq ?_
    refine zc_region ?_
    refine z_cmpB (r := false) want_none (by decide) rfl rfl rfl (iff_of_false Bool.false_ne_true (by omega)) ?_
    refine zl_pureL rfl ?_
    refine zl_nil ?_
    refine zk_seq ?_
    refine zc_false rfl ?_
    refine zc_skip ?_
    refine zk_norm_block ?_
    refine zk_seq ?_
    refine zc_seq ?_
    refine zc_region ?_
    refine zl_pureL rfl ?_
    refine zl_call (by first | exact want_none | exact want_L rfl) rfl (by decide) rfl (line_calls 5 (by decide) [] hT RdS.nil (by decide) (lv := 1) (by decide)) ?_
    rintro _ w2 ⟨vo, t, rfl, hO, hok, _, hsz, hT2, hC2⟩
    refine ⟨_, rfl, ?_⟩
    have hz5 : lnZ 5 = 1092 := by decide
    refine zl_pureL rfl ?_
    refine zl_nil ?_
    refine zk_seq ?_
    refine zc_ret ?_
    exact zk_ret1 (.inr rfl) rfl rfl ⟨_, t, rfl, hO.less hws, hok.1, by omega, hT2, hC.trans hC2 (fun _ _ h => h)⟩
end Go.Proofs.Ytbcmiijollpgeaa.T
