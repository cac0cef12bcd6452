import Derived.Test.YtbcmiijollpgeaaPBlk2
/- An article of numbers; two articles, one behind the other: the walk of PrintParts. -/
namespace Go.Proofs.Ytbcmiijollpgeaa.T
open Go Go.Z Go.Proofs
set_option linter.unusedVariables false
theorem blocks_calls : ∀ (d lv : Nat), 4 ≤ lv + d → d ≤ 4 → lv + 3 * d ≤ 40 → BlkC lv d
  | 0, lv, h, _, h2 => blocks_body (by omega) (by decide) (fun h3 => by omega)
  | d + 1, lv, h, h1, h2 => by
    have hz : blZ (d + 1) ≤ 1000000000 := by
      rcases (by omega : d = 0 ∨ d = 1 ∨ d = 2 ∨ d = 3) with rfl | rfl | rfl | rfl <;> decide
    refine blocks_body (by omega) hz (fun h3 => ⟨d, rfl, blocks_calls d (lv + 1) (by omega) (by omega) (by omega), ?_, ?_⟩)
    · exact item_calls (by omega) (blocks_calls d (lv + 1 + 1) (by omega) (by omega) (by omega))
    · exact item_calls (by omega) (blocks_calls d (lv + 2 + 1) (by omega) (by omega) (by omega))
set_option maxHeartbeats 4000000 in
theorem made_calls {w : World} {a : Option Addr} {len cap : Nat} {zs : List Int} (h : IsRow .i64 w a len cap zs) : Calls Try.prog 8 [.slice a len cap].toArray w fun e w' => ∃ v t, e = .returned v ∧ TreeAt true w' v t ∧ t.ok ∧ t.wt ≤ 100000000000 ∧ 0 < t.len ∧ Chg w w' No := by
  refine calls_zc (n := 7) (f := 8) (fn := Try.f8) Try.func8 rfl rfl (by simp) ?_
  refine zc_seq ?_
  refine zc_region ?_
  refine zl_pureL rfl ?_
  refine zl_nil ?_
  refine zk_seq ?_
  refine zc_seq ?_
  refine zc_region ?_
  refine zl_pureL rfl ?_
  refine z_buildE #[.slice a len cap, .int .i64 0] (by first | exact want_none | exact want_L rfl) (by decide) rfl (by kernel_rfl) ?_
  refine z_box (by first | exact want_none | exact want_L rfl) (by decide) rfl (fun w1 b1 hN1 => ?_)
  have hb1 : Blk w1 b1 30 [.slice a len cap, .int .i64 ((0 : Nat) : Int)] := hN1.blk
  have hT : Tp w1 w.heap.size b1 := ⟨⟨w, a, len, cap, zs, 0, Nat.le_refl _, hb1, h, hN1.chg.mono (fun _ _ h => h.elim), Nat.zero_le _⟩, Nat.le_of_eq hN1.at_.symm⟩
  refine zl_call (by first | exact want_none | exact want_L rfl) rfl (by decide) rfl (blocks_calls 4 0 (by decide) (by decide) (by decide) (li := 0) hT rfl) ?_
  rintro _ w2 ⟨vo, t, rfl, hO, hok, hsz, hT2, hC, hpos⟩
  refine ⟨_, rfl, ?_⟩
  have h4 : blZ 4 = 114244000 := by decide
  have hw := t.ok_wt hok
  refine zl_pureL rfl ?_
  refine zl_nil ?_
  refine zk_seq ?_
  refine zc_ret ?_
  exact zk_ret1 (.inr rfl) rfl rfl ⟨_, t, rfl, hO.tree.at', hok, by omega, hpos, hN1.chg.trans hC (fun k hk he => by have := hN1.at_; omega)⟩
theorem AT.app_wt : ∀ t q : AT, (t.app q).wt = t.wt + q.wt
  | .nil, q => by simp [AT.app, AT.wt]
  | .cons x k r, q => by have := AT.app_wt r q; simp only [AT.app, AT.wt, this]; omega
def bqO : List UInt8 := [60, 98, 108, 111, 99, 107, 113, 117, 111, 116, 101, 62]
def bqC : List UInt8 := [60, 47, 98, 108, 111, 99, 107, 113, 117, 111, 116, 101, 62]
theorem bq_text (t : AT) : (aN nBq t).text = bqO ++ t.text ++ bqC := by
  have e1 : ¬ (nBq = []) := by decide
  have e2 : ¬ (nBq = nBr ∨ nBq = nHr ∨ nBq = nImg) := by decide
  have e3 : ¬ (nBq = nPre ∧ t.feeds = true) := fun h => absurd h.1 (by decide)
  simp only [AT.text]
  rw [if_neg e1, if_neg e2, if_neg e3]
  simp [openS, attrsS, nBq, bqO, bqC]
theorem IsRow.no {k : IntKind} {w w' : World} {a : Option Addr} {len cap : Nat} {zs : List Int} (h : IsRow k w a len cap zs) (hc : Chg w w' No) : IsRow k w' a len cap zs := by
  rcases h with h | ⟨x, h1, h2, h3, h4, h5, h6⟩
  · exact .inl h
  · exact .inr ⟨x, h1, h2, h3, h4, fun i hi => cell_keep hc (h5 i hi), h6⟩
set_option maxRecDepth 100000 in
set_option maxHeartbeats 16000000 in
theorem PrintParts_walk (a1 : Option Addr) (l1 c1 : Nat) (z1 : List Int) (a2 : Option Addr) (l2 c2 : Nat) (z2 : List Int) (w : World) (h1 : IsRow .i64 w a1 l1 c1 z1) (h2 : IsRow .i64 w a2 l2 c2 z2) :
    Calls Try.prog 4 #[.slice a1 l1 c1, .slice a2 l2 c2] w fun e w' => e = .returned (.bool true) ∧ RowKit.Below w.heap.size w w' := by
  show Calls Try.prog 4 [Value.slice a1 l1 c1, .slice a2 l2 c2].toArray w _
  have hbig : big = 1000000000000 := rfl
  refine calls_zc (n := 38) (f := 4) (fn := Try.f4) Try.func4 rfl rfl (by simp) ?_
  refine zc_seq ?_
  refine zc_region ?_
  refine zl_pureL rfl ?_
  refine zl_nil ?_
  refine zk_seq ?_
  iterate 2 (refine zc_seq ?_)
  refine zc_region ?_
  refine zl_call (by first | exact want_none | exact want_L rfl) rfl (by decide) rfl known_calls ?_
  rintro _ w1 ⟨rfl, hC1⟩
  refine ⟨_, rfl, ?_⟩
  have h1' : IsRow .i64 w1 a1 l1 c1 z1 := h1.no hC1
  refine zl_pureL rfl ?_
  refine zl_nil ?_
  refine zk_seq ?_
  refine zc_false rfl ?_
  refine zc_skip ?_
  refine zk_seq ?_
  refine zc_seq ?_
  refine zc_region ?_
  refine zl_pureL rfl ?_
  refine zl_call (by first | exact want_none | exact want_L rfl) rfl (by decide) rfl (made_calls h1') ?_
  rintro _ w2 ⟨va, ta, rfl, hta, hoka, hwa, _, hC2⟩
  refine ⟨_, rfl, ?_⟩
  have h2' : IsRow .i64 w2 a2 l2 c2 z2 := (h2.no hC1).no hC2
  refine zl_pureL rfl ?_
  refine zl_call (by first | exact want_none | exact want_L rfl) rfl (by decide) rfl (made_calls h2') ?_
  rintro _ w3 ⟨vb, tb, rfl, htb, hokb, hwb, _, hC3⟩
  refine ⟨_, rfl, ?_⟩
  have hta := hta.no hC3
  obtain ⟨Aa, ca, rfl, _⟩ := hta.form
  obtain ⟨Ab, cb, rfl, _⟩ := htb.form
  iterate 2 (refine zl_pureL rfl ?_)
  refine zl_nil ?_
  refine zk_seq ?_
  refine zc_seq ?_
  refine zc_region ?_
  refine zl_pureL rfl ?_
  refine z_buildE #[.string (bs nBq), nS, .string (bs []), nS, .slice Aa ta.len ca] (by first | exact want_none | exact want_L rfl) (by decide) rfl (by kernel_rfl) ?_
  refine z_alloc (by first | exact want_none | exact want_L rfl) (by decide) (fun w4 b7 hN4 => ?_)
  have hb74 : Blk w4 b7 38 [.string ⟨#[]⟩, nS, .string ⟨#[]⟩, nS, nS] := hN4.blk
  refine z_store (by first | exact want_none | exact want_L rfl) rfl rfl rfl (by assumption) (by first | exact Nat.le_refl _ | simp [Value.cells]) (by simp [Value.cells, Value.oneCell']) (fun w5 hU5 => ?_)
  have hb75 : Blk w5 b7 38 [.string (bs nBq), nS, .string (bs []), nS, .slice Aa ta.len ca] := hU5.blk
  have hX5 : Chg w3 w5 No := hN4.chg.upd hU5 (hN4.ge (Chg.refl _ No))
  have hta5 := hta.no hX5
  have htb5 := htb.no hX5
  have hC5 : Chg w w5 No := ((hC1.no hC2).no hC3).no hX5
  have hla := text_len ta
  have hlb := text_len tb
  have hna := len_wt ta
  have hnb := len_wt tb
  refine zl_nil ?_
  refine zk_seq ?_
  refine zc_seq ?_
  refine zc_region ?_
  refine z_bs0 (by first | exact want_none | exact want_L rfl) (by decide) (fun y1 b1 hN1 => ?_)
  have hE1 : Own y1 38 5 (.slice (some ⟨b1, 0, none⟩) 0 0) 0 [] := Own.empty hN1
  obtain ⟨msa, hra, hRa⟩ := hta5
  obtain ⟨msb, hrb, hRb⟩ := htb5
  have hlena := Rows.len ta msa hRa
  have hlenb := Rows.len tb msb hRb
  refine zl_pureL rfl ?_
  refine z_appendO (by rfl) (by decide) (by first | exact want_none | exact want_L rfl) (by decide) rfl rfl hE1 ((hra.2 rfl).no hN1.chg) (by omega) (by omega) (fun v2 y2 hO2 hX2 hr2 => ?_)
  have hX52 : Chg w5 y2 No := hN1.chg.trans hX2 (fun k hk he => by simp only [Value.ownBlock, Option.some.injEq] at he; have := hN1.at_; omega)
  have hge2 : ∀ k, v2.ownBlock = some k → w5.heap.size ≤ k := fun k hk => by
    rcases hr2 with e1 | ⟨q, e1, e2⟩
    · rw [e1] at hk; simp only [Value.ownBlock, Option.some.injEq] at hk; have := hN1.at_; omega
    · rw [hk] at e1; cases e1; have := hN1.chg.size; omega
  rw [List.nil_append, Nat.zero_add] at hO2
  obtain ⟨A2, c2', rfl, _⟩ := hO2.rd.form
  refine zl_pureL rfl ?_
  refine z_appendO (by rfl) (by decide) (by first | exact want_none | exact want_L rfl) (by decide) rfl rfl hO2 ((hrb.2 rfl).no hX52) (by omega) (by omega) (fun v3 y3 hO3 hX3 hr3 => ?_)
  have hX53 : Chg w5 y3 No := hX52.trans hX3 (fun k hk he => by have := hge2 k he; omega)
  have hT3 : TreeAt true y3 v3 (ta.app tb) := ⟨msa ++ msb, Rx.of (by rw [List.length_append, encM_app]; exact hO3.rd), Rows.no hX53 _ _ (Rows.app ta tb msa msb hRa hRb)⟩
  have hta3 : TreeAt true y3 (.slice Aa ta.len ca) ta := ⟨msa, hra.no hX53, Rows.no hX53 _ _ hRa⟩
  have htb3 : TreeAt true y3 (.slice Ab tb.len cb) tb := ⟨msb, hrb.no hX53, Rows.no hX53 _ _ hRb⟩
  have hb73 := hb75.no hX53
  obtain ⟨A3, c3', rfl, _⟩ := hT3.form
  skip
  refine zl_call (by first | exact want_none | exact want_L rfl) rfl (by decide) rfl (text_calls hT3.weak (by rw [AT.app_wt, hbig]; omega)) ?_
  rintro _ y4 ⟨rfl, hX4⟩
  refine ⟨_, rfl, ?_⟩
  refine zl_pureL rfl ?_
  refine zl_call (by first | exact want_none | exact want_L rfl) rfl (by decide) rfl (text_calls (hta3.no hX4).weak (by omega)) ?_
  rintro _ y5 ⟨rfl, hX5'⟩
  refine ⟨_, rfl, ?_⟩
  refine zl_pureL rfl ?_
  refine zl_call (by first | exact want_none | exact want_L rfl) rfl (by decide) rfl (text_calls ((htb3.no hX4).no hX5').weak (by omega)) ?_
  rintro _ y6 ⟨rfl, hX6⟩
  refine ⟨_, rfl, ?_⟩
  have hX36 : Chg y3 y6 No := (hX4.no hX5').no hX6
  have hb76 := hb73.no hX36
  refine z_catL want_none (by decide) rfl rfl (by omega) ?_
  refine z_eqL (by first | exact want_none | exact want_L rfl) (by decide) rfl rfl (fun hc => ?_) (fun hc => absurd (AT.app_text ta tb) hc)
  refine zl_pureL rfl ?_
  refine z_loadAB (want_L rfl) (by decide) rfl (by assumption) (by rfl) ?_
  refine z_bsE (encM [mE nBq (.slice Aa ta.len ca)]) (by first | exact want_none | exact want_L rfl) (by decide) rfl (by decide) (by decide) (by kernel_rfl) (fun y7 b8 hN7 => ?_)
  have hT7 : TreeAt true y7 (.slice (some ⟨b8, 0, none⟩) 1 1) (aN nBq ta) := tree_new hN7 (rows_cons (nm := nBq) (tx := []) (AttrS.nil _) (hta3.no hX36) rows_nil)
  have hq7 : (aN nBq ta).wt ≤ big := by
    have e : nBq.length = 10 := rfl
    simp only [AT.wt, attrsN, e, hbig, List.length_nil]; omega
  skip
  refine zl_call (by first | exact want_none | exact want_L rfl) rfl (by decide) rfl (text_calls hT7.weak hq7) ?_
  rintro _ y8 ⟨rfl, hX8⟩
  refine ⟨_, rfl, ?_⟩
  refine zl_pureL rfl ?_
  refine zl_call (by first | exact want_none | exact want_L rfl) rfl (by decide) rfl (text_calls (((hta3.no hX36).no hN7.chg).no hX8).weak (by omega)) ?_
  rintro _ y9 ⟨rfl, hX9⟩
  refine ⟨_, rfl, ?_⟩
  have hlo : bqO.length = 12 := rfl
  have hlc : bqC.length = 13 := rfl
  iterate 2 (refine z_catL (want_L rfl) (by decide) rfl rfl (by simp only [List.length_append, List.length_cons, List.length_nil]; omega) ?_)
  refine z_eqL (by first | exact want_none | exact want_L rfl) (by decide) rfl rfl (fun hc => ?_) (fun hc => absurd (bq_text ta) hc)
  iterate 2 (refine zl_pureL rfl ?_)
  refine zl_nil ?_
  refine zk_seq ?_
  refine zc_ret ?_
  exact zk_ret1 (.inr rfl) rfl rfl ⟨rfl, ((((hC5.no hX53).no hX36).no hN7.chg).no (hX8.no hX9)).below⟩
end Go.Proofs.Ytbcmiijollpgeaa.T
