import Derived.Test.YteeibieaapiomaaSPut
/- A Site: Drop, Swap, Open. -/
namespace Go.Proofs.Yteeibieaapiomaa.D
open Go Go.Z Go.Proofs
set_option linter.unusedVariables false
section
variable {w w' w1 w2 : World} {s : Nat} {q : SP} {E : List Ent} {I : List Bool} {m : ByteArray → Int} {N : List ND} {f : Bool}
set_option maxRecDepth 100000 in
set_option maxHeartbeats 8000000 in
theorem sDrop_calls (h : IsS w s q E I m N f) (hE0 : 0 < E.length) (hE : E.length ≤ 1000000) (hI : ∀ k, k < E.length → (E.getD k en0).n < I.length) (hm : SmallM m) (n : Int) :
    Calls Try.prog 18 [.pointer (some ⟨s, 0, none⟩), .int .i64 n].toArray w fun x w' => ∃ p vo, x = .returned (.bool p) ∧ WrS w w' s q { q with vo := vo } ∧
      ((p = true ∧ ∃ k, 1 ≤ k ∧ k < E.length ∧ (E.getD k en0).n = n ∧ IsS w' s { q with vo := vo } (delE E k) (I.set (E.getD k en0).n false) (cntM m (E.getD k en0) (-1)) N f) ∨ (p = false ∧ IsS w' s { q with vo := vo } E I m N f)) := by
  refine calls_zc (n := 31) (f := 18) (fn := Try.f18) Try.func18 rfl rfl (by simp) ?_
  refine zc_seq ?_
  refine zc_region ?_
  refine zl_pureL rfl ?_
  refine zl_nil ?_
  refine zk_seq ?_
  refine zc_seq ?_
  refine zc_region ?_
  iterate 2 (refine zl_pureL rfl ?_)
  refine zl_call (by first | exact want_none | exact want_L rfl) rfl (by decide) rfl (sPlace_calls h hE0 hE n) ?_
  rintro _ w1 ⟨r, rfl, hr, hC1⟩
  refine ⟨_, rfl, ?_⟩
  have h1 := h.no hC1
  rcases hr with rfl | ⟨k, rfl, hk1, hkE, hkn⟩
  · refine zl_pureL rfl ?_
    refine zl_nil ?_
    refine zk_seq ?_
    iterate 2 (refine zc_seq ?_)
    refine zc_region ?_
    refine zl_pureL rfl ?_
    refine z_cmpB (r := true) want_none (by decide) rfl rfl rfl (iff_of_true rfl (by omega)) ?_
    refine zl_nil ?_
    refine zk_seq ?_
    refine zc_true rfl ?_
    refine zc_seq ?_
    refine zc_region ?_
    refine zl_pureL rfl ?_
    refine zl_nil ?_
    refine zk_seq ?_
    refine zc_ret ?_
    refine zk_ret_then ?_
    exact zk_ret1 (.inr rfl) rfl rfl ⟨_, q.vo, rfl, WrS.of_no hC1 _ _, .inr ⟨rfl, h1⟩⟩
  obtain ⟨b, o, c, hv, g0, g1, g2⟩ := h1.at_ k hkE
  obtain ⟨en, hen⟩ : ∃ en, en = E.getD k en0 := ⟨_, rfl⟩
  rw [← hen] at g0 g1 g2 hkn
  have hb := h1.blk
  rw [hv] at hb
  refine zl_pureL rfl ?_
  refine zl_nil ?_
  refine zk_seq ?_
  iterate 2 (refine zc_seq ?_)
  refine zc_region ?_
  refine zl_pureL rfl ?_
  refine z_cmpB (r := false) want_none (by decide) rfl rfl rfl (iff_of_false Bool.false_ne_true (by omega)) ?_
  refine zl_nil ?_
  refine zk_seq ?_
  refine zc_false rfl ?_
  refine zc_skip ?_
  refine zk_seq ?_
  refine zc_seq ?_
  refine zc_region ?_
  iterate 3 (refine zl_pureL rfl ?_)
  refine z_fa want_none (by decide) rfl ?_
  refine z_loadB want_none (by decide) rfl (by assumption) (by rfl) ?_
  refine zl_pureL rfl ?_
  refine z_ia want_none (by decide) rfl rfl (by omega) (by omega) ?_
  refine z_loadA (by rfl) (by first | exact want_none | exact want_L rfl) (by decide) rfl (agg3 g0 g1 g2 (by omega)) ?_
  refine zl_call (by first | exact want_none | exact want_L rfl) rfl (by decide) rfl (sGoes_calls h1 en (by rw [hen]; exact hI k hkE) hm) ?_
  rintro _ w2 ⟨rfl, h2, hW2⟩
  refine ⟨_, rfl, ?_⟩
  have hb2 := h2.blk
  rw [hv] at hb2
  have hO2 := h2.own
  rw [hv] at hO2
  refine zl_nil ?_
  refine zk_seq ?_
  refine zc_seq ?_
  refine zc_region ?_
  iterate 3 (refine zl_pureL rfl ?_)
  refine z_fa want_none (by decide) rfl ?_
  refine z_loadB want_none (by decide) rfl (by assumption) (by rfl) ?_
  iterate 2 (refine zl_pureL rfl ?_)
  refine z_add want_none (by decide) rfl rfl (by omega) (by omega) ?_
  refine zl_call (by first | exact want_none | exact want_L rfl) rfl (by decide) rfl (sDel_calls hO2 (by omega) hkE (i1 := (k : Int) + 1) rfl) ?_
  rintro _ w3 ⟨v3, rfl, hO3, hX3, ho3⟩
  refine ⟨_, rfl, ?_⟩
  have hb3 := hb2.typ hX3 (fun j hj => hO2.blk hj) (by decide)
  obtain ⟨A3, c3, hv3, _⟩ := hO3.rd.form
  subst hv3
  refine zl_pureL rfl ?_
  refine z_fa want_none (by decide) rfl ?_
  refine z_store (by first | exact want_none | exact want_L rfl) rfl rfl rfl (by assumption) (by first | exact Nat.le_refl _ | simp [Value.cells]) (by simp [Value.cells, Value.oneCell']) (fun w4 hU4 => ?_)
  obtain ⟨g5, g6⟩ := h2.growO (E' := delE E k) (v := .slice A3 (E.length - 1) c3) (by rw [hv]; exact hX3) (by rw [delE_len _ _ hkE, encE_del]; exact hO3) (by rw [hv]; exact .inl ho3) hU4
  refine zl_nil ?_
  refine zk_seq ?_
  refine zc_seq ?_
  refine zc_region ?_
  refine zl_pureL rfl ?_
  refine zl_nil ?_
  refine zk_seq ?_
  refine zc_ret ?_
  exact zk_ret1 (.inr rfl) rfl rfl ⟨_, _, rfl, ((WrS.of_no hC1 _ _).trans hW2).trans g6, .inl ⟨rfl, k, hk1, hkE, by rw [← hen]; exact hkn, by rw [← hen]; exact g5⟩⟩
theorem encE_set (E : List Ent) (k : Nat) (e : Ent) (hk : k < E.length) : encE (E.set k e) = Z.lay (encE E) (k * 3) e.cells := by
  rw [List.set_eq_take_append_cons_drop, if_pos hk]
  unfold Z.lay
  rw [encE_app, encE_take]
  show _ ++ (e.cells ++ encE (E.drop (k + 1))) = _
  have hl : e.cells.length = 3 := rfl
  rw [encE_drop, List.append_assoc, hl, Nat.succ_mul]
set_option maxRecDepth 100000 in
set_option maxHeartbeats 16000000 in
theorem sSwap_calls (h : IsS w s q E I m N f) (hB : BigT N) (hN : N.length ≤ 1000000) (hE0 : 0 < E.length) (hE : E.length ≤ 1000000) (hI : ∀ k, k < E.length → (E.getD k en0).n < I.length) (hI2 : I.length ≤ 1000000) (hm : SmallM m) (hm2 : ∀ e ∈ E, SmallM (cntM m e (-1))) (n n2 : Int) :
    Calls Try.prog 17 [.pointer (some ⟨s, 0, none⟩), .int .i64 n, .int .i64 n2].toArray w fun x w' => ∃ p vo vi, x = .returned (.bool p) ∧ WrS w w' s q { q with vo := vo, vi := vi } ∧
      ((p = true ∧ freshB N I n2 = true ∧ ∃ k, 1 ≤ k ∧ k < E.length ∧ (E.getD k en0).n = n ∧ IsS w' s { q with vo := vo, vi := vi } (E.set k (entN N n2.toNat)) (comI (I.set (E.getD k en0).n false) n2.toNat) (cntM (cntM m (E.getD k en0) (-1)) (entN N n2.toNat) 1) N f) ∨ (p = false ∧ IsS w' s { q with vo := vo, vi := vi } E I m N f)) := by
  refine calls_zc (n := 44) (f := 17) (fn := Try.f17) Try.func17 rfl rfl (by simp) ?_
  refine zc_seq ?_
  refine zc_region ?_
  refine zl_pureL rfl ?_
  refine zl_nil ?_
  refine zk_seq ?_
  refine zc_seq ?_
  refine zc_region ?_
  iterate 2 (refine zl_pureL rfl ?_)
  refine zl_call (by first | exact want_none | exact want_L rfl) rfl (by decide) rfl (sPlace_calls h hE0 hE n) ?_
  rintro _ w0 ⟨r, rfl, hr, hC0⟩
  refine ⟨_, rfl, ?_⟩
  have h0 := h.no hC0
  refine zl_pureL rfl ?_
  refine zl_nil ?_
  refine zk_seq ?_
  refine zc_seq ?_
  refine zc_region ?_
  iterate 2 (refine zl_pureL rfl ?_)
  refine zl_call (by first | exact want_none | exact want_L rfl) rfl (by decide) rfl (sFresh_calls h0 hB n2) ?_
  rintro _ w1 ⟨rfl, hC1⟩
  refine ⟨_, rfl, ?_⟩
  iterate 3 (refine zl_pureL rfl ?_)
  refine z_alloc (by first | exact want_none | exact want_L rfl) (by decide) (fun w2 b2 hN2 => ?_)
  have hb2 : Blk w2 b2 74 [.int .i64 0, .int .i64 0, .string ⟨#[]⟩] := hN2.blk
  refine z_store (by first | exact want_none | exact want_L rfl) rfl rfl rfl (by assumption) (by first | exact Nat.le_refl _ | simp [Value.cells]) (by simp [Value.cells, Value.oneCell']) (fun w3 hU3 => ?_)
  have hb3 : Blk w3 b2 74 [.int .i64 n2, .int .i64 (nodeOf N n2).space, .string (nodeOf N n2).name] := hU3.blk
  have hC03 : Chg w0 w3 No := (hC1.no hN2.chg).upd hU3 (by have := hN2.at_; have := hC1.size; omega)
  have hC3 : Chg w w3 No := hC0.no hC03
  have h3 := h.no hC3
  have hge2 : w.heap.size ≤ b2 := by have := hN2.at_; have := hC1.size; have := hC0.size; omega
  rcases hr with rfl | ⟨k, rfl, hk1, hkE, hkn⟩
  · refine zl_pureL rfl ?_
    refine zl_nil ?_
    refine zk_seq ?_
    iterate 2 (refine zc_seq ?_)
    refine zc_region ?_
    refine zl_pureL rfl ?_
    refine z_cmpB (r := true) want_none (by decide) rfl rfl rfl (iff_of_true rfl (by omega)) ?_
    iterate 4 (refine zl_pureL rfl ?_)
    refine zl_nil ?_
    refine zk_seq ?_
    refine zc_true rfl ?_
    refine zc_seq ?_
    refine zc_region ?_
    refine zl_pureL rfl ?_
    refine zl_nil ?_
    refine zk_seq ?_
    refine zc_ret ?_
    refine zk_ret_then ?_
    exact zk_ret1 (.inr rfl) rfl rfl ⟨_, q.vo, q.vi, rfl, WrS.of_no hC3 _ _, .inr ⟨rfl, h3⟩⟩
  cases hfr : freshB N I n2
  · refine zl_pureL rfl ?_
    refine zl_nil ?_
    refine zk_seq ?_
    iterate 2 (refine zc_seq ?_)
    refine zc_region ?_
    refine zl_pureL rfl ?_
    refine z_cmpB (r := false) want_none (by decide) rfl rfl rfl (iff_of_false Bool.false_ne_true (by omega)) ?_
    iterate 4 (refine zl_pureL rfl ?_)
    refine zl_nil ?_
    refine zk_seq ?_
    refine zc_true rfl ?_
    refine zc_seq ?_
    refine zc_region ?_
    refine zl_pureL rfl ?_
    refine zl_nil ?_
    refine zk_seq ?_
    refine zc_ret ?_
    refine zk_ret_then ?_
    exact zk_ret1 (.inr rfl) rfl rfl ⟨_, q.vo, q.vi, rfl, WrS.of_no hC3 _ _, .inr ⟨rfl, h3⟩⟩
  have hfr' := hfr
  unfold freshB at hfr'
  rw [decide_eq_true_eq] at hfr'
  have hin : isN N n2 := by
    have := hfr'.1
    unfold nodeOf at this
    split at this
    · assumption
    · simp [n0] at this
  obtain ⟨j, rfl⟩ : ∃ k : Nat, n2 = k := ⟨n2.toNat, by have := hin.1; omega⟩
  have hnd : nodeOf N (j : Nat) = N.getD j n0 := if_pos hin
  have hjN : j < N.length := by have := hin.2; omega
  rw [hnd] at hb3
  obtain ⟨b, o, c, hv, g0, g1, g2⟩ := h3.at_ k hkE
  have hmem : E.getD k en0 ∈ E := getD_mem hkE
  have hIk := hI k hkE
  obtain ⟨en, hen⟩ : ∃ en, en = E.getD k en0 := ⟨_, rfl⟩
  rw [← hen] at g0 g1 g2 hkn hmem hIk
  have hbs := h3.blk
  rw [hv] at hbs
  refine zl_pureL rfl ?_
  refine zl_nil ?_
  refine zk_seq ?_
  iterate 2 (refine zc_seq ?_)
  refine zc_region ?_
  refine zl_pureL rfl ?_
  refine z_cmpB (r := false) want_none (by decide) rfl rfl rfl (iff_of_false Bool.false_ne_true (by omega)) ?_
  iterate 4 (refine zl_pureL rfl ?_)
  refine zl_nil ?_
  refine zk_seq ?_
  refine zc_false rfl ?_
  refine zc_skip ?_
  refine zk_seq ?_
  refine zc_seq ?_
  refine zc_region ?_
  iterate 3 (refine zl_pureL rfl ?_)
  refine z_fa want_none (by decide) rfl ?_
  refine z_loadB want_none (by decide) rfl (by assumption) (by rfl) ?_
  refine zl_pureL rfl ?_
  refine z_ia want_none (by decide) rfl rfl (by omega) (by omega) ?_
  refine z_loadA (by rfl) (by first | exact want_none | exact want_L rfl) (by decide) rfl (agg3 g0 g1 g2 (by omega)) ?_
  refine zl_call (by first | exact want_none | exact want_L rfl) rfl (by decide) rfl (sGoes_calls h3 en hIk hm) ?_
  rintro _ w4 ⟨rfl, h4, hW4⟩
  refine ⟨_, rfl, ?_⟩
  have hb4 : Blk w4 b2 74 [.int .i64 j, .int .i64 (N.getD j n0).space, .string (N.getD j n0).name] := hb3.chg hW4.chg (fun hf => by have := h.lt b2 hf; omega)
  refine zl_nil ?_
  refine zk_seq ?_
  refine zc_seq ?_
  refine zc_region ?_
  refine zl_pureL rfl ?_
  refine z_loadAB want_none (by decide) rfl (by assumption) (by rfl) ?_
  refine zl_call (by first | exact want_none | exact want_L rfl) rfl (by decide) rfl (sComes_calls h4 (entN N j) (show j ≤ 1000000 by omega) (by rw [List.length_set]; exact hI2) (hm2 en hmem)) ?_
  rintro _ w5 ⟨rfl, vi, h5, hW5⟩
  refine ⟨_, rfl, ?_⟩
  have hb5 : Blk w5 b2 74 [.int .i64 j, .int .i64 (N.getD j n0).space, .string (N.getD j n0).name] := hb4.chg hW5.chg (fun hf => by have := h.lt b2 (by simpa [footS] using hf); omega)
  have hbs5 := h5.blk
  dsimp only at hbs5
  rw [hv] at hbs5
  refine zl_nil ?_
  refine zk_seq ?_
  refine zc_seq ?_
  refine zc_draw [7] (fun w' => Blk w' s 72 [.pointer (some ⟨q.pd, 0, none⟩), .pointer (some ⟨q.pm, 0, none⟩), .slice (some ⟨b, o, none⟩) E.length c, vi, .map (some q.r), .bool f] ∧ Blk w' b2 74 [.int .i64 j, .int .i64 (N.getD j n0).space, .string (N.getD j n0).name]) (.take 0 (.take 1 (.take 2 (.take 3 (.take 4 (.take 5 (.take 6 (.last 7)))))))) (by rfl) (by kernel_rfl) (by kernel_rfl) (fun w6 hC6 _ => ⟨?_, ?_⟩)
  · exact ⟨hbs5.no hC6, hb5.no hC6⟩
  have h6 := h5.no hC6
  have hO6 := h6.own
  dsimp only at hO6
  iterate 2 (refine zs_take rfl (zt_pure rfl ?_))
  refine zs_rdL rfl want_none rfl (by decide) (fun _ hS => r_fa rfl) ?_
  refine zs_rdL rfl want_none rfl (by decide) (fun _ hS => r_loadB rfl hS.1 (by rfl)) ?_
  refine zs_take rfl (zt_pure rfl ?_)
  refine zs_rdL rfl want_none rfl (by decide) (fun _ hS => r_loadAB rfl hS.2 (by rfl)) ?_
  refine zs_rdL rfl want_none rfl (by decide) (fun _ hS => r_ia rfl rfl (by omega) (by omega)) ?_
  obtain ⟨b', c', hv', _⟩ := own_b h3.own (by omega)
  rw [hv] at hv'
  cases hv'
  rw [hv] at hO6
  obtain ⟨cells, hBo, hfit, _, hnew⟩ := hO6.lay (o := k * 3) (vs := (entN N j).cells) (by show k * 3 + 3 ≤ _; rw [encE_len]; omega) (by intro u hu; simp only [Ent.cells, List.mem_cons, List.not_mem_nil, or_false] at hu; rcases hu with rfl | rfl | rfl <;> rfl)
  refine zs_storeL (o := k * 3) rfl (by first | exact want_none | exact want_L rfl) (ev_ptr rfl (by omega)) rfl rfl hBo (show k * 3 + 3 ≤ cells.length by simpa [Ent.cells] using hfit) (by simp [Value.cells, Value.oneCell']) (fun w7 hU7 => ?_)
  have hO7 := hnew w7 hU7
  rw [← encE_set _ _ _ hkE] at hO7
  have hR7 : OneT w6 74 (fun i => i = b) := fun i hi => ⟨_, hi ▸ hBo⟩
  have h7 := h6.ownW (E' := E.set k (entN N j)) hU7.chg hR7 (by dsimp only; rw [hv, List.length_set]; exact hO7)
  refine zk_seq ?_
  refine zc_seq ?_
  refine zc_region ?_
  refine zl_pureL rfl ?_
  refine zl_nil ?_
  refine zk_seq ?_
  refine zc_ret ?_
  refine zk_ret1 (.inr rfl) rfl rfl ⟨_, q.vo, vi, rfl, ((WrS.of_no hC3 _ _).trans hW4).trans (hW5.trans ((WrS.of_no hC6 _ _).trans ⟨hU7.chg.mono (fun i _ hi => .inr (.inl (by dsimp only; rw [hv, hi]; rfl))), fun _ h => .inl h⟩)), .inl ⟨rfl, rfl, k, hk1, hkE, by rw [← hen]; exact hkn, by rw [← hen]; exact h7⟩⟩
end
end Go.Proofs.Yteeibieaapiomaa.D
